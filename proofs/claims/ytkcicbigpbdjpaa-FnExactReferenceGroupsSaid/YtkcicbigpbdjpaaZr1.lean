/- What the row FnExactReferenceGroups leans on, part 2: a walk over abstract values, and contracts proved with it. -/
import Derived.WalkKit
import Derived.Laws.Rows
import Derived.RowKit
import Derived.OrdersHeld
import Derived.Deep.RegionHeld3
import Derived.Deep.Draws
import Derived.BigCall
import Derived.KernelRfl
import Derived.Deep.Slices
import Derived.ChangeArms
import Derived.ChangeShapes
import Derived.WideShapes
import Derived.Laws.StructEq
import Derived.Lib.Overlaps
import Derived.Test.YtkcicbigpbdjpaaProg
import Derived.MapKept
import Derived.Carry
import Derived.Shelf.SlSortCmp.WholeK
import Derived.Test.YtkcicbigpbdjpaaZr0
set_option linter.unusedVariables false
set_option linter.unusedSimpArgs false
set_option maxRecDepth 20000
set_option maxHeartbeats 8000000
namespace Go.Proofs.Ytkcicbigpbdjpaa.Ab
open Go.RowKit
section
variable {C : Cx} {A A' : Nat → Prop} {φ φ' : List Hd} {H : List Reg} {w w' : World} {P : Program} {o : Oper} {ρ : Operand → V} {ops : Array Oper} {rest : List Oper} {Q : Exit → St → Prop} {S T : St}
mutual
inductive Nz (k : Nat) : V → V → Prop where
  | same (v : V) : Nz k v v
  | nil : Nz k (.k (.slice none 0 0)) (.sl k 0 0)
  | agg {cs ds : List V} (h : NzS k cs ds) : Nz k (.agg cs) (.agg ds)
  | tup {cs ds : List V} (h : NzS k cs ds) : Nz k (.tup cs) (.tup ds)
inductive NzS (k : Nat) : List V → List V → Prop where
  | rest (cs : List V) : NzS k cs cs
  | cons {c d : V} {cs ds : List V} (h : Nz k c d) (hs : NzS k cs ds) : NzS k (c :: cs) (d :: ds)
end
theorem NzS.length {k : Nat} : ∀ {cs ds : List V}, NzS k cs ds → ds.length = cs.length
  | _, _, .rest _ => rfl
  | _, _, .cons h hs => by simp [NzS.length hs]
inductive NzR (k : Nat) : List Reg → List Reg → Prop where
  | rest (H : List Reg) : NzR k H H
  | cons {r : Reg} {cs : List V} {H K : List Reg} (h : NzS k r.cells cs) (hs : NzR k H K) : NzR k (r :: H) ({ r with cells := cs } :: K)
theorem NzR.get {k : Nat} : ∀ {H K : List Reg}, NzR k H K → K.length = H.length ∧ ∀ (i : Nat) (r' : Reg), K[i]? = some r' → ∃ r, H[i]? = some r ∧ r'.mode = r.mode ∧ r'.esz = r.esz ∧ r'.e = r.e ∧ NzS k r.cells r'.cells
  | _, _, .rest H => ⟨rfl, fun i r h => ⟨r, h, rfl, rfl, rfl, .rest _⟩⟩
  | _, _, .cons h hs => by
    obtain ⟨e1, e2⟩ := hs.get
    refine ⟨by simp [e1], fun i r' hi => ?_⟩
    cases i with
    | zero => simp at hi; subst hi; exact ⟨_, rfl, rfl, rfl, rfl, h⟩
    | succ i => simp only [List.getElem?_cons_succ] at hi ⊢; exact e2 i r' hi
mutual
theorem Nz.rel {k : Nat} {hd : Hd} (hφ : φ[k]? = some hd) (hb : hd.blk = none) (hc : hd.cap = 0) : ∀ {v v' : V} {x : Value}, Nz k v v' → Rel A w φ v x → Rel A w φ v' x
  | _, _, x, .same v, h => h
  | _, _, x, .nil, h => by
    rw [Rel] at h
    rw [Rel]
    exact ⟨hd, hφ, Or.inl ⟨by rw [h, hb, hc]; rfl, by omega⟩⟩
  | _, _, x, .agg hs, h => by
    rw [Rel] at h ⊢
    obtain ⟨xs, e1, e2, h1⟩ := h
    exact ⟨xs, e1, e2.trans (NzS.length hs).symm, NzS.rels hφ hb hc hs h1⟩
  | _, _, x, .tup hs, h => by
    rw [Rel] at h ⊢
    obtain ⟨xs, e1, e2, h1⟩ := h
    exact ⟨xs, e1, e2.trans (NzS.length hs).symm, NzS.rels hφ hb hc hs h1⟩
theorem NzS.rels {k : Nat} {hd : Hd} (hφ : φ[k]? = some hd) (hb : hd.blk = none) (hc : hd.cap = 0) : ∀ {cs ds : List V} {g : Nat → Option Value}, NzS k cs ds → zN A w φ cs g → zN A w φ ds g
  | _, _, g, .rest _, h => h
  | _, _, g, .cons h hs, hr => by
    rw [zN] at hr ⊢
    obtain ⟨⟨y, h1, h2⟩, h3⟩ := hr
    exact ⟨⟨y, h1, Nz.rel hφ hb hc h h2⟩, NzS.rels hφ hb hc hs h3⟩
end
mutual
inductive Vw (H : List Reg) : V → V → Prop where
  | same (v : V) : Vw H v v
  | pur {v v' : V} (h : Pur false H v v') : Vw H v v'
  | agg {cs ds : List V} (h : VwS H cs ds) : Vw H (.agg cs) (.agg ds)
  | tup {cs ds : List V} (h : VwS H cs ds) : Vw H (.tup cs) (.tup ds)
inductive VwS (H : List Reg) : List V → List V → Prop where
  | rest (cs : List V) : VwS H cs cs
  | cons {c d : V} {cs ds : List V} (h : Vw H c d) (hs : VwS H cs ds) : VwS H (c :: cs) (d :: ds)
end
theorem VwS.length : ∀ {cs ds : List V}, VwS H cs ds → ds.length = cs.length
  | _, _, .rest _ => rfl
  | _, _, .cons h hs => by simp [VwS.length hs]
theorem VwS.all {f : V → V} (hf : ∀ c, Vw H c (f c)) : ∀ cs : List V, VwS H cs (cs.map f)
  | [] => .rest _
  | c :: cs => .cons (hf c) (VwS.all hf cs)
mutual
theorem Vw.rel (hok : HeapOk A w φ H) : ∀ {v v' : V} {x : Value}, Vw H v v' → Rel A w φ v x → Rel A w φ v' x
  | _, _, x, .same _, h => h
  | _, _, x, .pur hp, h => yt (Pur.noH hp) (Pur.rel hok (fun b hb => hb) (fun h => by cases h) hp h)
  | _, _, x, .agg hs, h => by
    rw [Rel] at h ⊢
    obtain ⟨xs, e1, e2, h1⟩ := h
    exact ⟨xs, e1, e2.trans (VwS.length hs).symm, VwS.rels hok hs h1⟩
  | _, _, x, .tup hs, h => by
    rw [Rel] at h ⊢
    obtain ⟨xs, e1, e2, h1⟩ := h
    exact ⟨xs, e1, e2.trans (VwS.length hs).symm, VwS.rels hok hs h1⟩
theorem VwS.rels (hok : HeapOk A w φ H) : ∀ {cs ds : List V} {g : Nat → Option Value}, VwS H cs ds → zN A w φ cs g → zN A w φ ds g
  | _, _, g, .rest _, h => h
  | _, _, g, .cons h hs, hr => by
    rw [zN] at hr ⊢
    obtain ⟨⟨y, h1, h2⟩, h3⟩ := hr
    exact ⟨⟨y, h1, Vw.rel hok h h2⟩, VwS.rels hok hs h3⟩
end
inductive VwR (H : List Reg) : List Reg → List Reg → Prop where
  | rest (L : List Reg) : VwR H L L
  | cons {r : Reg} {cs : List V} {L K : List Reg} (h : VwS H r.cells cs) (hs : VwR H L K) : VwR H (r :: L) ({ r with cells := cs } :: K)
theorem VwR.get {G : List Reg} : ∀ {H K : List Reg}, VwR G H K → K.length = H.length ∧ ∀ (i : Nat) (r' : Reg), K[i]? = some r' → ∃ r, H[i]? = some r ∧ r'.mode = r.mode ∧ r'.esz = r.esz ∧ r'.e = r.e ∧ VwS G r.cells r'.cells
  | _, _, .rest H => ⟨rfl, fun i r h => ⟨r, h, rfl, rfl, rfl, .rest _⟩⟩
  | _, _, .cons h hs => by
    obtain ⟨e1, e2⟩ := hs.get
    refine ⟨by simp [e1], fun i r' hi => ?_⟩
    cases i with
    | zero => simp at hi; subst hi; exact ⟨_, rfl, rfl, rfl, rfl, h⟩
    | succ i => simp only [List.getElem?_cons_succ] at hi ⊢; exact e2 i r' hi
end
end Go.Proofs.Ytkcicbigpbdjpaa.Ab
namespace Go.Proofs.Ytkcicbigpbdjpaa.Ab
open Go.RowKit
def bkI (hs : List Nat) (n i : Nat) : Nat := (hs[i]?).getD (n + (i - hs.length))
mutual
inductive Bk (hs : List Nat) (n : Nat) : V → V → Prop where
  | same {v : V} (h : noH v = true) : Bk hs n v v
  | sl {i h off m : Nat} (h1 : bkI hs n i = h) : Bk hs n (.sl i off m) (.sl h off m)
  | ptr {i h off : Nat} (h1 : bkI hs n i = h) : Bk hs n (.ptr i off) (.ptr h off)
  | agg {cs ds : List V} (h : BkS hs n cs ds) : Bk hs n (.agg cs) (.agg ds)
  | tup {cs ds : List V} (h : BkS hs n cs ds) : Bk hs n (.tup cs) (.tup ds)
inductive BkS (hs : List Nat) (n : Nat) : List V → List V → Prop where
  | rest {cs : List V} (h : NoH cs) : BkS hs n cs cs
  | cons {c d : V} {cs ds : List V} (h : Bk hs n c d) (ht : BkS hs n cs ds) : BkS hs n (c :: cs) (d :: ds)
end
theorem BkS.nil {hs : List Nat} {n : Nat} : BkS hs n [] [] := .rest fun c hc => by cases hc
theorem BkS.length {hs : List Nat} {n : Nat} : ∀ {cs ds : List V}, BkS hs n cs ds → ds.length = cs.length
  | _, _, .rest _ => rfl
  | _, _, .cons h ht => by simp [BkS.length ht]
theorem BkS.map {α : Type} {hs : List Nat} {n : Nat} {f g : α → V} : ∀ (l : List α), (∀ x ∈ l, Bk hs n (f x) (g x)) → BkS hs n (l.map f) (l.map g)
  | [], _ => .nil
  | x :: l, h => .cons (h x (List.mem_cons_self ..)) (BkS.map l fun y hy => h y (List.mem_cons_of_mem _ hy))
section
variable {A : Nat → Prop} {w : World} {φ φ' : List Hd} {hs : List Nat} {n : Nat}
mutual
theorem Bk.rel (hg : ∀ (i : Nat) hd, φ'[i]? = some hd → φ[bkI hs n i]? = some hd) : ∀ {v v' : V} {x : Value}, Bk hs n v v' → Rel A w φ' v x → Rel A w φ v' x
  | v, _, x, .same h, hr => yt h hr
  | _, _, x, .sl h1, hr => by
    rw [Rel] at hr ⊢
    obtain ⟨hd, h2, h3⟩ := hr
    exact ⟨hd, h1 ▸ hg _ _ h2, h3⟩
  | _, _, x, .ptr h1, hr => by
    rw [Rel] at hr ⊢
    obtain ⟨hd, b, h2, h3⟩ := hr
    exact ⟨hd, b, h1 ▸ hg _ _ h2, h3⟩
  | .agg cs, .agg ds, x, .agg h, hr => by
    rw [Rel] at hr ⊢
    obtain ⟨xs, e1, e2, h2⟩ := hr
    exact ⟨xs, e1, e2.trans (BkS.length h).symm, BkS.rels hg h h2⟩
  | .tup cs, .tup ds, x, .tup h, hr => by
    rw [Rel] at hr ⊢
    obtain ⟨xs, e1, e2, h2⟩ := hr
    exact ⟨xs, e1, e2.trans (BkS.length h).symm, BkS.rels hg h h2⟩
theorem BkS.rels (hg : ∀ (i : Nat) hd, φ'[i]? = some hd → φ[bkI hs n i]? = some hd) : ∀ {cs ds : List V} {g : Nat → Option Value}, BkS hs n cs ds → zN A w φ' cs g → zN A w φ ds g
  | _, _, g, .rest h, hr => yb h hr
  | c :: cs, _, g, .cons h ht, hr => by
    rw [zN] at hr ⊢
    obtain ⟨⟨y, h1, h2⟩, h3⟩ := hr
    exact ⟨⟨y, h1, Bk.rel hg h h2⟩, BkS.rels hg ht h3⟩
end
end
theorem wr {hs : List Nat} : ∀ {cs : List V}, NoH cs → PassS hs cs cs
  | [], _ => .nil
  | c :: cs, h => .cons (.same (h c (List.mem_cons_self ..))) (wr fun d hd => h d (List.mem_cons_of_mem _ hd))
inductive BkR (hs : List Nat) (n : Nat) : List Reg → List Reg → Prop where
  | nil : BkR hs n [] []
  | cons {R : Reg} {cs : List V} {K K2 : List Reg} (h : BkS hs n R.cells cs) (ht : BkR hs n K K2) : BkR hs n (R :: K) ({ R with cells := cs } :: K2)
theorem BkR.get {hs : List Nat} {n : Nat} : ∀ {K K2 : List Reg}, BkR hs n K K2 → K2.length = K.length ∧ ∀ (i : Nat) (r : Reg), K2[i]? = some r → ∃ R, K[i]? = some R ∧ r.mode = R.mode ∧ r.esz = R.esz ∧ r.e = R.e ∧ BkS hs n R.cells r.cells
  | _, _, .nil => ⟨rfl, fun i r h => by simp at h⟩
  | _, _, .cons h ht => by
    obtain ⟨e1, e2⟩ := ht.get
    refine ⟨by simp [e1], fun i r hi => ?_⟩
    cases i with
    | zero => simp at hi; subst hi; exact ⟨_, rfl, rfl, rfl, rfl, h⟩
    | succ i => simp only [List.getElem?_cons_succ] at hi ⊢; exact e2 i r hi
inductive GiveN (H : List Reg) (hs0 : List Nat) (n : Nat) : List Nat → List Reg → List Reg → List Reg → Prop where
  | nil : GiveN H hs0 n [] [] [] []
  | cons {h : Nat} {R0 R' : Reg} {cs cs2 : List V} {hs : List Nat} {Rs Rs' R2 : List Reg} (hH : H[h]? = some R0) (hm : R0.mode = 0) (hp : PassS hs0 R0.cells cs) (hm' : R'.mode ≠ 1) (hb : BkS hs0 n R'.cells cs2) (ht : GiveN H hs0 n hs Rs Rs' R2) :
      GiveN H hs0 n (h :: hs) ({ R0 with cells := cs } :: Rs) (R' :: Rs') ({ R' with cells := cs2 } :: R2)
theorem GiveN.spec {H : List Reg} {hs0 : List Nat} {n : Nat} : ∀ {hs : List Nat} {Rs Rs' R2 : List Reg}, GiveN H hs0 n hs Rs Rs' R2 → Rs.length = hs.length ∧ Rs'.length = hs.length ∧ R2.length = hs.length ∧ ∀ (i h : Nat), hs[i]? = some h →
    ∃ R0 R R' RR, H[h]? = some R0 ∧ R0.mode = 0 ∧ Rs[i]? = some R ∧ R.mode = 0 ∧ R.esz = R0.esz ∧ R.e = R0.e ∧ PassS hs0 R0.cells R.cells ∧ Rs'[i]? = some R' ∧ R'.mode ≠ 1 ∧ R2[i]? = some RR ∧ RR.mode = R'.mode ∧ RR.esz = R'.esz ∧ RR.e = R'.e ∧ BkS hs0 n R'.cells RR.cells
  | _, _, _, _, .nil => ⟨rfl, rfl, rfl, fun i h hi => by simp at hi⟩
  | _, _, _, _, .cons hH hm hp hm' hb ht => by
    obtain ⟨e1, e2, e3, e4⟩ := ht.spec
    refine ⟨by simp [e1], by simp [e2], by simp [e3], fun i h hi => ?_⟩
    cases i with
    | zero =>
      simp at hi
      subst hi
      exact ⟨_, _, _, _, hH, hm, rfl, hm, rfl, rfl, hp, rfl, hm', rfl, rfl, rfl, rfl, hb⟩
    | succ i =>
      simp only [List.getElem?_cons_succ] at hi ⊢
      exact e4 i h hi
section
variable {P : Program} {o : Oper} {ρ : Operand → V} {H : List Reg}
end
end Go.Proofs.Ytkcicbigpbdjpaa.Ab
namespace Go.Proofs.Ytkcicbigpbdjpaa.Ab
open Go.RowKit
section
variable {P : Program} {o : Oper} {ρ : Operand → V} {H : List Reg} {l : List V}
theorem ws {t t' : TypeId} {x y : Operand} {k : IntKind} {a : Int} (ho : o.op = .binOp .neq t x y t') (hx : ρ x = .k (.int k a)) (hy : ρ y = .k (.int k a)) : zb P o ρ H (B false) H := by
  have := vM (P := P) (H := H) ho hx hy
  simpa using this
end
section
variable {P : Program} {T : Tab} {ops : Array Oper} {ds d : List Nat} {n : Nat} {Q : Exit → St → Prop} {o : Oper} {l l' : List V} {H K : List Reg} {m : Nat}
end
section
variable {P : Program} {o : Oper} {ρ : Operand → V} {K : List Reg}
theorem vp {α : Type} (T : Ty α) {xs : List α} {i off : Nat} {z : α} {v : V} (hz : xs[i]? = some z) (hv : (T.enc z)[off]? = some v) : (T.flat xs)[i * T.n + off]? = some v := by
  rw [← List.getElem?_drop, wK T hz]
  exact zr hv
theorem qY {α : Type} {T : Ty α} {t e h i off : Nat} {x : Operand} {xs : List α} {z : α} {v : V} [ht : Sc P t] (ho : o.op = .load t x) (hx : ρ x = .ptr h (i * T.n + off)) (hH : K[h]? = some (yJ T e xs)) (hz : xs[i]? = some z) (hv : (T.enc z)[off]? = some v) : zb P o ρ K v K :=
  xY ho hx hH (Nat.zero_le _) (vp T hz hv)
theorem qZ {α : Type} {T : Ty α} {t e h i : Nat} {x : Operand} {xs : List α} {z : α} [ht : Ag P t T.n] (ho : o.op = .load t x) (hx : ρ x = .ptr h (i * T.n)) (hH : K[h]? = some (yJ T e xs)) (hz : xs[i]? = some z) : zb P o ρ K (.agg (T.enc z)) K := by
  have hlt := (List.getElem?_eq_some_iff.1 hz).1
  have := xD (P := P) (o := o) (ρ := ρ) (H := K) (n := T.n) ho hx hH (Nat.zero_le _) (by
    show i * T.n + T.n ≤ (T.flat xs).length
    rw [zn, ← Nat.succ_mul]
    exact Nat.mul_le_mul_right _ hlt)
  have e : ((yJ T e xs).cells.drop (i * T.n)).take T.n = T.enc z := by
    show ((T.flat xs).drop (i * T.n)).take T.n = _
    rw [wK T hz, ← T.len z, List.take_left']
    rfl
  rw [e] at this
  exact this
end
theorem GiveN.flat {H : List Reg} {hs0 : List Nat} {n h : Nat} {R R' : Reg} {hs : List Nat} {Rs Rs' R2 : List Reg} (hH : H[h]? = some R) (hm : R.mode = 0) (hm' : R'.mode = 0) (hN : NoH R.cells) (hN' : NoH R'.cells) (ht : GiveN H hs0 n hs Rs Rs' R2) : GiveN H hs0 n (h :: hs) (R :: Rs) (R' :: Rs') (R' :: R2) :=
  .cons (R0 := R) (R' := R') (cs := R.cells) (cs2 := R'.cells) hH hm (wr hN) (by omega) (.rest hN') ht
end Go.Proofs.Ytkcicbigpbdjpaa.Ab
namespace Go.Proofs.Ytkcicbigpbdjpaa.Ab
open Go.RowKit
def shR (k : Nat) (r : Reg) : Reg := { r with cells := wB k r.cells }
section
variable {A A' : Nat → Prop} {w w' : World} {φ φ' : List Hd} {H : List Reg}
end
section
variable {P : Program} {o : Oper} {ρ : Operand → V} {H : List Reg}
end
section
variable {α : Type} {T : Ty α} {e : TypeId}
def nC (b : Nat) : List (List α) → List V
  | [] => []
  | x :: xs => .sl b 0 x.length :: nC (b + 1) xs
def nR (T : Ty α) (e : TypeId) (rs : List (List α)) : List Reg := rs.map (yJ T e)
def lsT (T : Ty α) : Ty (List α) := ⟨1, fun xs => [xp T xs], fun _ => rfl, by decide, fun r c hc => by
  simp only [List.mem_cons, List.not_mem_nil, or_false] at hc
  subst hc
  exact ⟨rfl, rfl⟩⟩
theorem wG {H : List Reg} {h : Nat} {x : List α} (hH : H[h]? = some (yJ T e x)) : Pur true H (.sl h 0 x.length) (xp T x) := sM hH rfl rfl rfl
end
def FlatS (cs : List V) : Prop := ∀ c ∈ cs, (match c with | .k _ | .sl _ _ _ | .ptr _ _ | .any => true | _ => false) = true
section
variable {l : List V} {H : List Reg}
inductive EqS : List V → List V → Prop where
  | nil : EqS [] []
  | any {d : V} {cs ds : List V} (h : EqS cs ds) : EqS (.any :: cs) (d :: ds)
  | same {c d : V} {cs ds : List V} (hc : d = c) (h : EqS cs ds) : EqS (c :: cs) (d :: ds)
theorem EqS.length : ∀ {cs ds : List V}, EqS cs ds → ds.length = cs.length
  | _, _, .nil => rfl
  | _, _, .any h => by simp [EqS.length h]
  | _, _, .same _ h => by simp [EqS.length h]
theorem EqS.rels {A : Nat → Prop} {w : World} {φ : List Hd} : ∀ {cs ds : List V} {g : Nat → Option Value}, EqS cs ds → zN A w φ ds g → zN A w φ cs g
  | _, _, g, .nil, h => h
  | _, _, g, .any hs, h => by
    rw [zN] at h ⊢
    obtain ⟨⟨y, h1, h2⟩, h3⟩ := h
    exact ⟨⟨y, h1, by simp [Rel]⟩, EqS.rels hs h3⟩
  | _, _, g, .same hc hs, h => by
    subst hc
    rw [zN] at h ⊢
    obtain ⟨h1, h3⟩ := h
    exact ⟨h1, EqS.rels hs h3⟩
theorem tm {l' : List V} {H H' : List Reg} {m : Nat} (hH : H' = H) (ht : EqS l' l) : Sub ⟨l', H', m⟩ ⟨l, H, m⟩ := fun C φ a w hI => by
  subst hH
  obtain ⟨hm0, ⟨A, hA, hr⟩, hs, hd⟩ := hI
  exact ⟨φ, hm0, ⟨A, hA, EqS.rels ht hr⟩, hs.trans (EqS.length ht), hd⟩
end
section
variable {P : Program} {o : Oper} {ρ : Operand → V} {H : List Reg}
end
end Go.Proofs.Ytkcicbigpbdjpaa.Ab
namespace Go.Proofs.Ytkcicbigpbdjpaa.Ab
open Go.RowKit
section
variable {α : Type} {T : Ty α} {e : TypeId}
end
section
variable {P : Program} {o : Oper} {ρ : Operand → V} {H : List Reg}
end
end Go.Proofs.Ytkcicbigpbdjpaa.Ab
namespace Go.Proofs.Ytkcicbigpbdjpaa.Ab
theorem sc2 : Sc Go.Proofs.Try.prog 2 := z7 Go.Proofs.Try.underlying2 rfl (by kernel_rfl)
instance : Sc Go.Proofs.Try.prog 2 := sc2
theorem ze2 : Ze Go.Proofs.Try.prog 2 [.int .i64 (0)] := zm (z := .int .i64 (0)) (by kernel_rfl) rfl
instance : Ze Go.Proofs.Try.prog 2 [.int .i64 (0)] := ze2
theorem ik2 : Ik Go.Proofs.Try.prog 2 .i64 := ⟨Go.Proofs.Try.underlying2⟩
instance : Ik Go.Proofs.Try.prog 2 .i64 := ik2
theorem sc3 : Sc Go.Proofs.Try.prog 3 := z7 Go.Proofs.Try.underlying3 rfl (by kernel_rfl)
instance : Sc Go.Proofs.Try.prog 3 := sc3
theorem ze3 : Ze Go.Proofs.Try.prog 3 [.int .i64 (0)] := zm (z := .int .i64 (0)) (by kernel_rfl) rfl
instance : Ze Go.Proofs.Try.prog 3 [.int .i64 (0)] := ze3
theorem ik3 : Ik Go.Proofs.Try.prog 3 .i64 := ⟨Go.Proofs.Try.underlying3⟩
instance : Ik Go.Proofs.Try.prog 3 .i64 := ik3
theorem sc4 : Sc Go.Proofs.Try.prog 4 := z7 Go.Proofs.Try.underlying4 rfl (by kernel_rfl)
instance : Sc Go.Proofs.Try.prog 4 := sc4
theorem ze4 : Ze Go.Proofs.Try.prog 4 [.bool false] := zm (z := .bool false) (by kernel_rfl) rfl
instance : Ze Go.Proofs.Try.prog 4 [.bool false] := ze4
theorem bl4 : Go.Proofs.Try.prog.underlying 4 = some .bool := Go.Proofs.Try.underlying4
theorem sc5 : Sc Go.Proofs.Try.prog 5 := z7 Go.Proofs.Try.underlying5 rfl (by kernel_rfl)
instance : Sc Go.Proofs.Try.prog 5 := sc5
theorem ze5 : Ze Go.Proofs.Try.prog 5 [.int .u8 (0)] := zm (z := .int .u8 (0)) (by kernel_rfl) rfl
instance : Ze Go.Proofs.Try.prog 5 [.int .u8 (0)] := ze5
theorem ik5 : Ik Go.Proofs.Try.prog 5 .u8 := ⟨Go.Proofs.Try.underlying5⟩
instance : Ik Go.Proofs.Try.prog 5 .u8 := ik5
theorem sc9 : Sc Go.Proofs.Try.prog 9 := z7 Go.Proofs.Try.underlying9 rfl (by kernel_rfl)
instance : Sc Go.Proofs.Try.prog 9 := sc9
theorem ze9 : Ze Go.Proofs.Try.prog 9 [.string .empty] := zm (z := .string .empty) (by kernel_rfl) rfl
instance : Ze Go.Proofs.Try.prog 9 [.string .empty] := ze9
theorem str9 : Str Go.Proofs.Try.prog 9 := ⟨Go.Proofs.Try.underlying9⟩
instance : Str Go.Proofs.Try.prog 9 := str9
theorem sc12 : Sc Go.Proofs.Try.prog 12 := z7 Go.Proofs.Try.underlying12 rfl (by kernel_rfl)
instance : Sc Go.Proofs.Try.prog 12 := sc12
theorem ze12 : Ze Go.Proofs.Try.prog 12 [.int .u64 (0)] := zm (z := .int .u64 (0)) (by kernel_rfl) rfl
instance : Ze Go.Proofs.Try.prog 12 [.int .u64 (0)] := ze12
theorem ik12 : Ik Go.Proofs.Try.prog 12 .u64 := ⟨Go.Proofs.Try.underlying12⟩
instance : Ik Go.Proofs.Try.prog 12 .u64 := ik12
theorem ag13 : Ag Go.Proofs.Try.prog 13 2 := yg Go.Proofs.Try.underlying13 (by kernel_rfl)
instance : Ag Go.Proofs.Try.prog 13 2 := ag13
theorem s2 : Fd Go.Proofs.Try.prog 13 0 0 1 false := zk Go.Proofs.Try.underlying13 (off := 0) (ft := 9) rfl Go.Proofs.Try.underlying9 (n := 1) (by kernel_rfl) rfl (by decide)
instance : Fd Go.Proofs.Try.prog 13 0 0 1 false := s2
theorem s1 : Fd Go.Proofs.Try.prog 13 1 1 1 false := zk Go.Proofs.Try.underlying13 (off := 1) (ft := 12) rfl Go.Proofs.Try.underlying12 (n := 1) (by kernel_rfl) rfl (by decide)
instance : Fd Go.Proofs.Try.prog 13 1 1 1 false := s1
theorem pl13 : Pl Go.Proofs.Try.prog 13 [(0, 1), (1, 1)] := yc Go.Proofs.Try.underlying13 (by kernel_rfl)
instance : Pl Go.Proofs.Try.prog 13 [(0, 1), (1, 1)] := pl13
theorem ze13 : Ze Go.Proofs.Try.prog 13 [.string .empty, .int .u64 (0)] := zm (z := .agg #[.string .empty, .int .u64 (0)]) (by kernel_rfl) rfl
instance : Ze Go.Proofs.Try.prog 13 [.string .empty, .int .u64 (0)] := ze13
theorem sc21 : Sc Go.Proofs.Try.prog 21 := z7 Go.Proofs.Try.underlying21 rfl (by kernel_rfl)
instance : Sc Go.Proofs.Try.prog 21 := sc21
theorem ze21 : Ze Go.Proofs.Try.prog 21 [.int .i32 (0)] := zm (z := .int .i32 (0)) (by kernel_rfl) rfl
instance : Ze Go.Proofs.Try.prog 21 [.int .i32 (0)] := ze21
theorem ik21 : Ik Go.Proofs.Try.prog 21 .i32 := ⟨Go.Proofs.Try.underlying21⟩
instance : Ik Go.Proofs.Try.prog 21 .i32 := ik21
theorem sc22 : Sc Go.Proofs.Try.prog 22 := z7 Go.Proofs.Try.underlying22 rfl (by kernel_rfl)
instance : Sc Go.Proofs.Try.prog 22 := sc22
theorem ze22 : Ze Go.Proofs.Try.prog 22 [.slice none 0 0] := zm (z := .slice none 0 0) (by kernel_rfl) rfl
instance : Ze Go.Proofs.Try.prog 22 [.slice none 0 0] := ze22
theorem sl22 : Sl Go.Proofs.Try.prog 22 5 1 1 := xE (z := .int .u8 (0)) Go.Proofs.Try.underlying22 (by kernel_rfl) rfl (by decide)
instance : Sl Go.Proofs.Try.prog 22 5 1 1 := sl22
theorem sc24 : Sc Go.Proofs.Try.prog 24 := z7 Go.Proofs.Try.underlying24 rfl (by kernel_rfl)
instance : Sc Go.Proofs.Try.prog 24 := sc24
theorem ze24 : Ze Go.Proofs.Try.prog 24 [.slice none 0 0] := zm (z := .slice none 0 0) (by kernel_rfl) rfl
instance : Ze Go.Proofs.Try.prog 24 [.slice none 0 0] := ze24
theorem sl24 : Sl Go.Proofs.Try.prog 24 71 3 24 := xE (z := .agg #[.int .i64 (0), .int .i64 (0), .int .i64 (0)]) Go.Proofs.Try.underlying24 (by kernel_rfl) rfl (by decide)
instance : Sl Go.Proofs.Try.prog 24 71 3 24 := sl24
theorem sc27 : Sc Go.Proofs.Try.prog 27 := z7 Go.Proofs.Try.underlying27 rfl (by kernel_rfl)
instance : Sc Go.Proofs.Try.prog 27 := sc27
theorem ze27 : Ze Go.Proofs.Try.prog 27 [.slice none 0 0] := zm (z := .slice none 0 0) (by kernel_rfl) rfl
instance : Ze Go.Proofs.Try.prog 27 [.slice none 0 0] := ze27
theorem sl27 : Sl Go.Proofs.Try.prog 27 39 1 24 := xE (z := .agg #[.slice none 0 0]) Go.Proofs.Try.underlying27 (by kernel_rfl) rfl (by decide)
instance : Sl Go.Proofs.Try.prog 27 39 1 24 := sl27
theorem ag38 : Ag Go.Proofs.Try.prog 38 1 := yg Go.Proofs.Try.underlying38 (by kernel_rfl)
instance : Ag Go.Proofs.Try.prog 38 1 := ag38
theorem s0 : Fd Go.Proofs.Try.prog 38 0 0 1 false := zk Go.Proofs.Try.underlying38 (off := 0) (ft := 24) rfl Go.Proofs.Try.underlying24 (n := 1) (by kernel_rfl) rfl (by decide)
instance : Fd Go.Proofs.Try.prog 38 0 0 1 false := s0
theorem pl38 : Pl Go.Proofs.Try.prog 38 [(0, 1)] := yc Go.Proofs.Try.underlying38 (by kernel_rfl)
instance : Pl Go.Proofs.Try.prog 38 [(0, 1)] := pl38
theorem ze38 : Ze Go.Proofs.Try.prog 38 [.slice none 0 0] := zm (z := .agg #[.slice none 0 0]) (by kernel_rfl) rfl
instance : Ze Go.Proofs.Try.prog 38 [.slice none 0 0] := ze38
theorem ag39 : Ag Go.Proofs.Try.prog 39 1 := yg Go.Proofs.Try.underlying39 (by kernel_rfl)
instance : Ag Go.Proofs.Try.prog 39 1 := ag39
theorem sz : Fd Go.Proofs.Try.prog 39 0 0 1 false := zk Go.Proofs.Try.underlying39 (off := 0) (ft := 24) rfl Go.Proofs.Try.underlying24 (n := 1) (by kernel_rfl) rfl (by decide)
instance : Fd Go.Proofs.Try.prog 39 0 0 1 false := sz
theorem pl39 : Pl Go.Proofs.Try.prog 39 [(0, 1)] := yc Go.Proofs.Try.underlying39 (by kernel_rfl)
instance : Pl Go.Proofs.Try.prog 39 [(0, 1)] := pl39
theorem ze39 : Ze Go.Proofs.Try.prog 39 [.slice none 0 0] := zm (z := .agg #[.slice none 0 0]) (by kernel_rfl) rfl
instance : Ze Go.Proofs.Try.prog 39 [.slice none 0 0] := ze39
theorem sc40 : Sc Go.Proofs.Try.prog 40 := z7 Go.Proofs.Try.underlying40 rfl (by kernel_rfl)
instance : Sc Go.Proofs.Try.prog 40 := sc40
theorem ze40 : Ze Go.Proofs.Try.prog 40 [.slice none 0 0] := zm (z := .slice none 0 0) (by kernel_rfl) rfl
instance : Ze Go.Proofs.Try.prog 40 [.slice none 0 0] := ze40
theorem sl40 : Sl Go.Proofs.Try.prog 40 118 3 24 := xE (z := .agg #[.int .i64 (0), .int .i64 (0), .int .i64 (0)]) Go.Proofs.Try.underlying40 (by kernel_rfl) rfl (by decide)
instance : Sl Go.Proofs.Try.prog 40 118 3 24 := sl40
theorem sc46 : Sc Go.Proofs.Try.prog 46 := z7 Go.Proofs.Try.underlying46 rfl (by kernel_rfl)
instance : Sc Go.Proofs.Try.prog 46 := sc46
theorem ze46 : Ze Go.Proofs.Try.prog 46 [.slice none 0 0] := zm (z := .slice none 0 0) (by kernel_rfl) rfl
instance : Ze Go.Proofs.Try.prog 46 [.slice none 0 0] := ze46
theorem sl46 : Sl Go.Proofs.Try.prog 46 123 1 24 := xE (z := .agg #[.slice none 0 0]) Go.Proofs.Try.underlying46 (by kernel_rfl) rfl (by decide)
instance : Sl Go.Proofs.Try.prog 46 123 1 24 := sl46
theorem sc61 : Sc Go.Proofs.Try.prog 61 := z7 Go.Proofs.Try.underlying61 rfl (by kernel_rfl)
instance : Sc Go.Proofs.Try.prog 61 := sc61
theorem ze61 : Ze Go.Proofs.Try.prog 61 [.slice none 0 0] := zm (z := .slice none 0 0) (by kernel_rfl) rfl
instance : Ze Go.Proofs.Try.prog 61 [.slice none 0 0] := ze61
theorem sl61 : Sl Go.Proofs.Try.prog 61 131 7 56 := xE (z := .agg #[.int .i64 (0), .int .i64 (0), .int .i64 (0), .int .i64 (0), .int .i64 (0), .int .i64 (0), .bool false]) Go.Proofs.Try.underlying61 (by kernel_rfl) rfl (by decide)
instance : Sl Go.Proofs.Try.prog 61 131 7 56 := sl61
theorem sc64 : Sc Go.Proofs.Try.prog 64 := z7 Go.Proofs.Try.underlying64 rfl (by kernel_rfl)
instance : Sc Go.Proofs.Try.prog 64 := sc64
theorem ze64 : Ze Go.Proofs.Try.prog 64 [.slice none 0 0] := zm (z := .slice none 0 0) (by kernel_rfl) rfl
instance : Ze Go.Proofs.Try.prog 64 [.slice none 0 0] := ze64
theorem sl64 : Sl Go.Proofs.Try.prog 64 73 7 56 := xE (z := .agg #[.int .i64 (0), .int .i64 (0), .int .i64 (0), .int .i64 (0), .int .i64 (0), .int .i64 (0), .bool false]) Go.Proofs.Try.underlying64 (by kernel_rfl) rfl (by decide)
instance : Sl Go.Proofs.Try.prog 64 73 7 56 := sl64
theorem ag70 : Ag Go.Proofs.Try.prog 70 3 := yg Go.Proofs.Try.underlying70 (by kernel_rfl)
instance : Ag Go.Proofs.Try.prog 70 3 := ag70
theorem sy : Fd Go.Proofs.Try.prog 70 0 0 1 false := zk Go.Proofs.Try.underlying70 (off := 0) (ft := 3) rfl Go.Proofs.Try.underlying3 (n := 1) (by kernel_rfl) rfl (by decide)
instance : Fd Go.Proofs.Try.prog 70 0 0 1 false := sy
theorem sx : Fd Go.Proofs.Try.prog 70 1 1 1 false := zk Go.Proofs.Try.underlying70 (off := 1) (ft := 3) rfl Go.Proofs.Try.underlying3 (n := 1) (by kernel_rfl) rfl (by decide)
instance : Fd Go.Proofs.Try.prog 70 1 1 1 false := sx
theorem sw : Fd Go.Proofs.Try.prog 70 2 2 1 false := zk Go.Proofs.Try.underlying70 (off := 2) (ft := 3) rfl Go.Proofs.Try.underlying3 (n := 1) (by kernel_rfl) rfl (by decide)
instance : Fd Go.Proofs.Try.prog 70 2 2 1 false := sw
theorem pl70 : Pl Go.Proofs.Try.prog 70 [(0, 1), (1, 1), (2, 1)] := yc Go.Proofs.Try.underlying70 (by kernel_rfl)
instance : Pl Go.Proofs.Try.prog 70 [(0, 1), (1, 1), (2, 1)] := pl70
theorem ze70 : Ze Go.Proofs.Try.prog 70 [.int .i64 (0), .int .i64 (0), .int .i64 (0)] := zm (z := .agg #[.int .i64 (0), .int .i64 (0), .int .i64 (0)]) (by kernel_rfl) rfl
instance : Ze Go.Proofs.Try.prog 70 [.int .i64 (0), .int .i64 (0), .int .i64 (0)] := ze70
theorem ag71 : Ag Go.Proofs.Try.prog 71 3 := yg Go.Proofs.Try.underlying71 (by kernel_rfl)
instance : Ag Go.Proofs.Try.prog 71 3 := ag71
theorem sv : Fd Go.Proofs.Try.prog 71 0 0 1 false := zk Go.Proofs.Try.underlying71 (off := 0) (ft := 3) rfl Go.Proofs.Try.underlying3 (n := 1) (by kernel_rfl) rfl (by decide)
instance : Fd Go.Proofs.Try.prog 71 0 0 1 false := sv
theorem su : Fd Go.Proofs.Try.prog 71 1 1 1 false := zk Go.Proofs.Try.underlying71 (off := 1) (ft := 3) rfl Go.Proofs.Try.underlying3 (n := 1) (by kernel_rfl) rfl (by decide)
instance : Fd Go.Proofs.Try.prog 71 1 1 1 false := su
theorem st : Fd Go.Proofs.Try.prog 71 2 2 1 false := zk Go.Proofs.Try.underlying71 (off := 2) (ft := 3) rfl Go.Proofs.Try.underlying3 (n := 1) (by kernel_rfl) rfl (by decide)
instance : Fd Go.Proofs.Try.prog 71 2 2 1 false := st
theorem pl71 : Pl Go.Proofs.Try.prog 71 [(0, 1), (1, 1), (2, 1)] := yc Go.Proofs.Try.underlying71 (by kernel_rfl)
instance : Pl Go.Proofs.Try.prog 71 [(0, 1), (1, 1), (2, 1)] := pl71
theorem ze71 : Ze Go.Proofs.Try.prog 71 [.int .i64 (0), .int .i64 (0), .int .i64 (0)] := zm (z := .agg #[.int .i64 (0), .int .i64 (0), .int .i64 (0)]) (by kernel_rfl) rfl
instance : Ze Go.Proofs.Try.prog 71 [.int .i64 (0), .int .i64 (0), .int .i64 (0)] := ze71
theorem ag72 : Ag Go.Proofs.Try.prog 72 7 := yg Go.Proofs.Try.underlying72 (by kernel_rfl)
instance : Ag Go.Proofs.Try.prog 72 7 := ag72
theorem ss : Fd Go.Proofs.Try.prog 72 0 0 3 true := zk Go.Proofs.Try.underlying72 (off := 0) (ft := 71) rfl Go.Proofs.Try.underlying71 (n := 3) (by kernel_rfl) rfl (by decide)
instance : Fd Go.Proofs.Try.prog 72 0 0 3 true := ss
theorem sr : Fd Go.Proofs.Try.prog 72 1 3 3 true := zk Go.Proofs.Try.underlying72 (off := 3) (ft := 71) rfl Go.Proofs.Try.underlying71 (n := 3) (by kernel_rfl) rfl (by decide)
instance : Fd Go.Proofs.Try.prog 72 1 3 3 true := sr
theorem sq : Fd Go.Proofs.Try.prog 72 2 6 1 false := zk Go.Proofs.Try.underlying72 (off := 6) (ft := 4) rfl Go.Proofs.Try.underlying4 (n := 1) (by kernel_rfl) rfl (by decide)
instance : Fd Go.Proofs.Try.prog 72 2 6 1 false := sq
theorem pl72 : Pl Go.Proofs.Try.prog 72 [(0, 3), (3, 3), (6, 1)] := yc Go.Proofs.Try.underlying72 (by kernel_rfl)
instance : Pl Go.Proofs.Try.prog 72 [(0, 3), (3, 3), (6, 1)] := pl72
theorem ze72 : Ze Go.Proofs.Try.prog 72 [.int .i64 (0), .int .i64 (0), .int .i64 (0), .int .i64 (0), .int .i64 (0), .int .i64 (0), .bool false] := zm (z := .agg #[.int .i64 (0), .int .i64 (0), .int .i64 (0), .int .i64 (0), .int .i64 (0), .int .i64 (0), .bool false]) (by kernel_rfl) rfl
instance : Ze Go.Proofs.Try.prog 72 [.int .i64 (0), .int .i64 (0), .int .i64 (0), .int .i64 (0), .int .i64 (0), .int .i64 (0), .bool false] := ze72
theorem ag73 : Ag Go.Proofs.Try.prog 73 7 := yg Go.Proofs.Try.underlying73 (by kernel_rfl)
instance : Ag Go.Proofs.Try.prog 73 7 := ag73
theorem so : Fd Go.Proofs.Try.prog 73 0 0 3 true := zk Go.Proofs.Try.underlying73 (off := 0) (ft := 71) rfl Go.Proofs.Try.underlying71 (n := 3) (by kernel_rfl) rfl (by decide)
instance : Fd Go.Proofs.Try.prog 73 0 0 3 true := so
theorem sn : Fd Go.Proofs.Try.prog 73 1 3 3 true := zk Go.Proofs.Try.underlying73 (off := 3) (ft := 71) rfl Go.Proofs.Try.underlying71 (n := 3) (by kernel_rfl) rfl (by decide)
instance : Fd Go.Proofs.Try.prog 73 1 3 3 true := sn
theorem sm : Fd Go.Proofs.Try.prog 73 2 6 1 false := zk Go.Proofs.Try.underlying73 (off := 6) (ft := 4) rfl Go.Proofs.Try.underlying4 (n := 1) (by kernel_rfl) rfl (by decide)
instance : Fd Go.Proofs.Try.prog 73 2 6 1 false := sm
theorem pl73 : Pl Go.Proofs.Try.prog 73 [(0, 3), (3, 3), (6, 1)] := yc Go.Proofs.Try.underlying73 (by kernel_rfl)
instance : Pl Go.Proofs.Try.prog 73 [(0, 3), (3, 3), (6, 1)] := pl73
theorem ze73 : Ze Go.Proofs.Try.prog 73 [.int .i64 (0), .int .i64 (0), .int .i64 (0), .int .i64 (0), .int .i64 (0), .int .i64 (0), .bool false] := zm (z := .agg #[.int .i64 (0), .int .i64 (0), .int .i64 (0), .int .i64 (0), .int .i64 (0), .int .i64 (0), .bool false]) (by kernel_rfl) rfl
instance : Ze Go.Proofs.Try.prog 73 [.int .i64 (0), .int .i64 (0), .int .i64 (0), .int .i64 (0), .int .i64 (0), .int .i64 (0), .bool false] := ze73
theorem sc82 : Sc Go.Proofs.Try.prog 82 := z7 Go.Proofs.Try.underlying82 rfl (by kernel_rfl)
instance : Sc Go.Proofs.Try.prog 82 := sc82
theorem ze82 : Ze Go.Proofs.Try.prog 82 [.slice none 0 0] := zm (z := .slice none 0 0) (by kernel_rfl) rfl
instance : Ze Go.Proofs.Try.prog 82 [.slice none 0 0] := ze82
theorem sl82 : Sl Go.Proofs.Try.prog 82 139 5 40 := xE (z := .agg #[.int .i64 (0), .int .i64 (0), .int .i64 (0), .int .i64 (0), .int .i64 (0)]) Go.Proofs.Try.underlying82 (by kernel_rfl) rfl (by decide)
instance : Sl Go.Proofs.Try.prog 82 139 5 40 := sl82
theorem sc84 : Sc Go.Proofs.Try.prog 84 := z7 Go.Proofs.Try.underlying84 rfl (by kernel_rfl)
instance : Sc Go.Proofs.Try.prog 84 := sc84
theorem ze84 : Ze Go.Proofs.Try.prog 84 [.slice none 0 0] := zm (z := .slice none 0 0) (by kernel_rfl) rfl
instance : Ze Go.Proofs.Try.prog 84 [.slice none 0 0] := ze84
theorem sl84 : Sl Go.Proofs.Try.prog 84 95 5 40 := xE (z := .agg #[.int .i64 (0), .int .i64 (0), .int .i64 (0), .int .i64 (0), .int .i64 (0)]) Go.Proofs.Try.underlying84 (by kernel_rfl) rfl (by decide)
instance : Sl Go.Proofs.Try.prog 84 95 5 40 := sl84
theorem ag94 : Ag Go.Proofs.Try.prog 94 5 := yg Go.Proofs.Try.underlying94 (by kernel_rfl)
instance : Ag Go.Proofs.Try.prog 94 5 := ag94
theorem sk : Fd Go.Proofs.Try.prog 94 0 0 1 false := zk Go.Proofs.Try.underlying94 (off := 0) (ft := 3) rfl Go.Proofs.Try.underlying3 (n := 1) (by kernel_rfl) rfl (by decide)
instance : Fd Go.Proofs.Try.prog 94 0 0 1 false := sk
theorem sj : Fd Go.Proofs.Try.prog 94 1 1 1 false := zk Go.Proofs.Try.underlying94 (off := 1) (ft := 3) rfl Go.Proofs.Try.underlying3 (n := 1) (by kernel_rfl) rfl (by decide)
instance : Fd Go.Proofs.Try.prog 94 1 1 1 false := sj
theorem si : Fd Go.Proofs.Try.prog 94 2 2 1 false := zk Go.Proofs.Try.underlying94 (off := 2) (ft := 3) rfl Go.Proofs.Try.underlying3 (n := 1) (by kernel_rfl) rfl (by decide)
instance : Fd Go.Proofs.Try.prog 94 2 2 1 false := si
theorem sh : Fd Go.Proofs.Try.prog 94 3 3 1 false := zk Go.Proofs.Try.underlying94 (off := 3) (ft := 3) rfl Go.Proofs.Try.underlying3 (n := 1) (by kernel_rfl) rfl (by decide)
instance : Fd Go.Proofs.Try.prog 94 3 3 1 false := sh
theorem sg : Fd Go.Proofs.Try.prog 94 4 4 1 false := zk Go.Proofs.Try.underlying94 (off := 4) (ft := 3) rfl Go.Proofs.Try.underlying3 (n := 1) (by kernel_rfl) rfl (by decide)
instance : Fd Go.Proofs.Try.prog 94 4 4 1 false := sg
theorem pl94 : Pl Go.Proofs.Try.prog 94 [(0, 1), (1, 1), (2, 1), (3, 1), (4, 1)] := yc Go.Proofs.Try.underlying94 (by kernel_rfl)
instance : Pl Go.Proofs.Try.prog 94 [(0, 1), (1, 1), (2, 1), (3, 1), (4, 1)] := pl94
theorem ze94 : Ze Go.Proofs.Try.prog 94 [.int .i64 (0), .int .i64 (0), .int .i64 (0), .int .i64 (0), .int .i64 (0)] := zm (z := .agg #[.int .i64 (0), .int .i64 (0), .int .i64 (0), .int .i64 (0), .int .i64 (0)]) (by kernel_rfl) rfl
instance : Ze Go.Proofs.Try.prog 94 [.int .i64 (0), .int .i64 (0), .int .i64 (0), .int .i64 (0), .int .i64 (0)] := ze94
theorem ag95 : Ag Go.Proofs.Try.prog 95 5 := yg Go.Proofs.Try.underlying95 (by kernel_rfl)
instance : Ag Go.Proofs.Try.prog 95 5 := ag95
theorem sf : Fd Go.Proofs.Try.prog 95 0 0 1 false := zk Go.Proofs.Try.underlying95 (off := 0) (ft := 3) rfl Go.Proofs.Try.underlying3 (n := 1) (by kernel_rfl) rfl (by decide)
instance : Fd Go.Proofs.Try.prog 95 0 0 1 false := sf
theorem se : Fd Go.Proofs.Try.prog 95 1 1 1 false := zk Go.Proofs.Try.underlying95 (off := 1) (ft := 3) rfl Go.Proofs.Try.underlying3 (n := 1) (by kernel_rfl) rfl (by decide)
instance : Fd Go.Proofs.Try.prog 95 1 1 1 false := se
theorem sd : Fd Go.Proofs.Try.prog 95 2 2 1 false := zk Go.Proofs.Try.underlying95 (off := 2) (ft := 3) rfl Go.Proofs.Try.underlying3 (n := 1) (by kernel_rfl) rfl (by decide)
instance : Fd Go.Proofs.Try.prog 95 2 2 1 false := sd
theorem sb : Fd Go.Proofs.Try.prog 95 3 3 1 false := zk Go.Proofs.Try.underlying95 (off := 3) (ft := 3) rfl Go.Proofs.Try.underlying3 (n := 1) (by kernel_rfl) rfl (by decide)
instance : Fd Go.Proofs.Try.prog 95 3 3 1 false := sb
theorem sa : Fd Go.Proofs.Try.prog 95 4 4 1 false := zk Go.Proofs.Try.underlying95 (off := 4) (ft := 3) rfl Go.Proofs.Try.underlying3 (n := 1) (by kernel_rfl) rfl (by decide)
instance : Fd Go.Proofs.Try.prog 95 4 4 1 false := sa
theorem pl95 : Pl Go.Proofs.Try.prog 95 [(0, 1), (1, 1), (2, 1), (3, 1), (4, 1)] := yc Go.Proofs.Try.underlying95 (by kernel_rfl)
instance : Pl Go.Proofs.Try.prog 95 [(0, 1), (1, 1), (2, 1), (3, 1), (4, 1)] := pl95
theorem ze95 : Ze Go.Proofs.Try.prog 95 [.int .i64 (0), .int .i64 (0), .int .i64 (0), .int .i64 (0), .int .i64 (0)] := zm (z := .agg #[.int .i64 (0), .int .i64 (0), .int .i64 (0), .int .i64 (0), .int .i64 (0)]) (by kernel_rfl) rfl
instance : Ze Go.Proofs.Try.prog 95 [.int .i64 (0), .int .i64 (0), .int .i64 (0), .int .i64 (0), .int .i64 (0)] := ze95
theorem pW : Sc Go.Proofs.Try.prog 104 := z7 Go.Proofs.Try.underlying104 rfl (by kernel_rfl)
instance : Sc Go.Proofs.Try.prog 104 := pW
theorem pI : Ze Go.Proofs.Try.prog 104 [.pointer none] := zm (z := .pointer none) (by kernel_rfl) rfl
instance : Ze Go.Proofs.Try.prog 104 [.pointer none] := pI
theorem pV : Sc Go.Proofs.Try.prog 114 := z7 Go.Proofs.Try.underlying114 rfl (by kernel_rfl)
instance : Sc Go.Proofs.Try.prog 114 := pV
theorem pH : Ze Go.Proofs.Try.prog 114 [.slice none 0 0] := zm (z := .slice none 0 0) (by kernel_rfl) rfl
instance : Ze Go.Proofs.Try.prog 114 [.slice none 0 0] := pH
theorem pL : Sl Go.Proofs.Try.prog 114 9 1 16 := xE (z := .string .empty) Go.Proofs.Try.underlying114 (by kernel_rfl) rfl (by decide)
instance : Sl Go.Proofs.Try.prog 114 9 1 16 := pL
theorem pv : Ag Go.Proofs.Try.prog 118 3 := yg Go.Proofs.Try.underlying118 (by kernel_rfl)
instance : Ag Go.Proofs.Try.prog 118 3 := pv
theorem u5 : Fd Go.Proofs.Try.prog 118 0 0 1 false := zk Go.Proofs.Try.underlying118 (off := 0) (ft := 3) rfl Go.Proofs.Try.underlying3 (n := 1) (by kernel_rfl) rfl (by decide)
instance : Fd Go.Proofs.Try.prog 118 0 0 1 false := u5
theorem u4 : Fd Go.Proofs.Try.prog 118 1 1 1 false := zk Go.Proofs.Try.underlying118 (off := 1) (ft := 3) rfl Go.Proofs.Try.underlying3 (n := 1) (by kernel_rfl) rfl (by decide)
instance : Fd Go.Proofs.Try.prog 118 1 1 1 false := u4
theorem u3 : Fd Go.Proofs.Try.prog 118 2 2 1 false := zk Go.Proofs.Try.underlying118 (off := 2) (ft := 3) rfl Go.Proofs.Try.underlying3 (n := 1) (by kernel_rfl) rfl (by decide)
instance : Fd Go.Proofs.Try.prog 118 2 2 1 false := u3
theorem pe : Pl Go.Proofs.Try.prog 118 [(0, 1), (1, 1), (2, 1)] := yc Go.Proofs.Try.underlying118 (by kernel_rfl)
instance : Pl Go.Proofs.Try.prog 118 [(0, 1), (1, 1), (2, 1)] := pe
theorem pG : Ze Go.Proofs.Try.prog 118 [.int .i64 (0), .int .i64 (0), .int .i64 (0)] := zm (z := .agg #[.int .i64 (0), .int .i64 (0), .int .i64 (0)]) (by kernel_rfl) rfl
instance : Ze Go.Proofs.Try.prog 118 [.int .i64 (0), .int .i64 (0), .int .i64 (0)] := pG
theorem pu : Ag Go.Proofs.Try.prog 122 1 := yg Go.Proofs.Try.underlying122 (by kernel_rfl)
instance : Ag Go.Proofs.Try.prog 122 1 := pu
theorem u2 : Fd Go.Proofs.Try.prog 122 0 0 1 false := zk Go.Proofs.Try.underlying122 (off := 0) (ft := 40) rfl Go.Proofs.Try.underlying40 (n := 1) (by kernel_rfl) rfl (by decide)
instance : Fd Go.Proofs.Try.prog 122 0 0 1 false := u2
theorem pd : Pl Go.Proofs.Try.prog 122 [(0, 1)] := yc Go.Proofs.Try.underlying122 (by kernel_rfl)
instance : Pl Go.Proofs.Try.prog 122 [(0, 1)] := pd
theorem pF : Ze Go.Proofs.Try.prog 122 [.slice none 0 0] := zm (z := .agg #[.slice none 0 0]) (by kernel_rfl) rfl
instance : Ze Go.Proofs.Try.prog 122 [.slice none 0 0] := pF
theorem pt : Ag Go.Proofs.Try.prog 123 1 := yg Go.Proofs.Try.underlying123 (by kernel_rfl)
instance : Ag Go.Proofs.Try.prog 123 1 := pt
theorem u1 : Fd Go.Proofs.Try.prog 123 0 0 1 false := zk Go.Proofs.Try.underlying123 (off := 0) (ft := 40) rfl Go.Proofs.Try.underlying40 (n := 1) (by kernel_rfl) rfl (by decide)
instance : Fd Go.Proofs.Try.prog 123 0 0 1 false := u1
theorem pc : Pl Go.Proofs.Try.prog 123 [(0, 1)] := yc Go.Proofs.Try.underlying123 (by kernel_rfl)
instance : Pl Go.Proofs.Try.prog 123 [(0, 1)] := pc
theorem pE : Ze Go.Proofs.Try.prog 123 [.slice none 0 0] := zm (z := .agg #[.slice none 0 0]) (by kernel_rfl) rfl
instance : Ze Go.Proofs.Try.prog 123 [.slice none 0 0] := pE
theorem pU : Sc Go.Proofs.Try.prog 127 := z7 Go.Proofs.Try.underlying127 rfl (by kernel_rfl)
instance : Sc Go.Proofs.Try.prog 127 := pU
theorem pD : Ze Go.Proofs.Try.prog 127 [.slice none 0 0] := zm (z := .slice none 0 0) (by kernel_rfl) rfl
instance : Ze Go.Proofs.Try.prog 127 [.slice none 0 0] := pD
theorem pK : Sl Go.Proofs.Try.prog 127 3 1 8 := xE (z := .int .i64 (0)) Go.Proofs.Try.underlying127 (by kernel_rfl) rfl (by decide)
instance : Sl Go.Proofs.Try.prog 127 3 1 8 := pK
theorem pr : Ag Go.Proofs.Try.prog 130 7 := yg Go.Proofs.Try.underlying130 (by kernel_rfl)
instance : Ag Go.Proofs.Try.prog 130 7 := pr
theorem u0 : Fd Go.Proofs.Try.prog 130 0 0 3 true := zk Go.Proofs.Try.underlying130 (off := 0) (ft := 118) rfl Go.Proofs.Try.underlying118 (n := 3) (by kernel_rfl) rfl (by decide)
instance : Fd Go.Proofs.Try.prog 130 0 0 3 true := u0
theorem uz : Fd Go.Proofs.Try.prog 130 1 3 3 true := zk Go.Proofs.Try.underlying130 (off := 3) (ft := 118) rfl Go.Proofs.Try.underlying118 (n := 3) (by kernel_rfl) rfl (by decide)
instance : Fd Go.Proofs.Try.prog 130 1 3 3 true := uz
theorem uy : Fd Go.Proofs.Try.prog 130 2 6 1 false := zk Go.Proofs.Try.underlying130 (off := 6) (ft := 4) rfl Go.Proofs.Try.underlying4 (n := 1) (by kernel_rfl) rfl (by decide)
instance : Fd Go.Proofs.Try.prog 130 2 6 1 false := uy
theorem pb : Pl Go.Proofs.Try.prog 130 [(0, 3), (3, 3), (6, 1)] := yc Go.Proofs.Try.underlying130 (by kernel_rfl)
instance : Pl Go.Proofs.Try.prog 130 [(0, 3), (3, 3), (6, 1)] := pb
theorem pC : Ze Go.Proofs.Try.prog 130 [.int .i64 (0), .int .i64 (0), .int .i64 (0), .int .i64 (0), .int .i64 (0), .int .i64 (0), .bool false] := zm (z := .agg #[.int .i64 (0), .int .i64 (0), .int .i64 (0), .int .i64 (0), .int .i64 (0), .int .i64 (0), .bool false]) (by kernel_rfl) rfl
instance : Ze Go.Proofs.Try.prog 130 [.int .i64 (0), .int .i64 (0), .int .i64 (0), .int .i64 (0), .int .i64 (0), .int .i64 (0), .bool false] := pC
theorem pq : Ag Go.Proofs.Try.prog 131 7 := yg Go.Proofs.Try.underlying131 (by kernel_rfl)
instance : Ag Go.Proofs.Try.prog 131 7 := pq
theorem ux : Fd Go.Proofs.Try.prog 131 0 0 3 true := zk Go.Proofs.Try.underlying131 (off := 0) (ft := 118) rfl Go.Proofs.Try.underlying118 (n := 3) (by kernel_rfl) rfl (by decide)
instance : Fd Go.Proofs.Try.prog 131 0 0 3 true := ux
theorem uw : Fd Go.Proofs.Try.prog 131 1 3 3 true := zk Go.Proofs.Try.underlying131 (off := 3) (ft := 118) rfl Go.Proofs.Try.underlying118 (n := 3) (by kernel_rfl) rfl (by decide)
instance : Fd Go.Proofs.Try.prog 131 1 3 3 true := uw
theorem uv : Fd Go.Proofs.Try.prog 131 2 6 1 false := zk Go.Proofs.Try.underlying131 (off := 6) (ft := 4) rfl Go.Proofs.Try.underlying4 (n := 1) (by kernel_rfl) rfl (by decide)
instance : Fd Go.Proofs.Try.prog 131 2 6 1 false := uv
theorem pa : Pl Go.Proofs.Try.prog 131 [(0, 3), (3, 3), (6, 1)] := yc Go.Proofs.Try.underlying131 (by kernel_rfl)
instance : Pl Go.Proofs.Try.prog 131 [(0, 3), (3, 3), (6, 1)] := pa
theorem pB : Ze Go.Proofs.Try.prog 131 [.int .i64 (0), .int .i64 (0), .int .i64 (0), .int .i64 (0), .int .i64 (0), .int .i64 (0), .bool false] := zm (z := .agg #[.int .i64 (0), .int .i64 (0), .int .i64 (0), .int .i64 (0), .int .i64 (0), .int .i64 (0), .bool false]) (by kernel_rfl) rfl
instance : Ze Go.Proofs.Try.prog 131 [.int .i64 (0), .int .i64 (0), .int .i64 (0), .int .i64 (0), .int .i64 (0), .int .i64 (0), .bool false] := pB
theorem pp : Ag Go.Proofs.Try.prog 139 5 := yg Go.Proofs.Try.underlying139 (by kernel_rfl)
instance : Ag Go.Proofs.Try.prog 139 5 := pp
theorem uu : Fd Go.Proofs.Try.prog 139 0 0 1 false := zk Go.Proofs.Try.underlying139 (off := 0) (ft := 3) rfl Go.Proofs.Try.underlying3 (n := 1) (by kernel_rfl) rfl (by decide)
instance : Fd Go.Proofs.Try.prog 139 0 0 1 false := uu
theorem ut : Fd Go.Proofs.Try.prog 139 1 1 1 false := zk Go.Proofs.Try.underlying139 (off := 1) (ft := 3) rfl Go.Proofs.Try.underlying3 (n := 1) (by kernel_rfl) rfl (by decide)
instance : Fd Go.Proofs.Try.prog 139 1 1 1 false := ut
theorem ur : Fd Go.Proofs.Try.prog 139 2 2 1 false := zk Go.Proofs.Try.underlying139 (off := 2) (ft := 3) rfl Go.Proofs.Try.underlying3 (n := 1) (by kernel_rfl) rfl (by decide)
instance : Fd Go.Proofs.Try.prog 139 2 2 1 false := ur
theorem uq : Fd Go.Proofs.Try.prog 139 3 3 1 false := zk Go.Proofs.Try.underlying139 (off := 3) (ft := 3) rfl Go.Proofs.Try.underlying3 (n := 1) (by kernel_rfl) rfl (by decide)
instance : Fd Go.Proofs.Try.prog 139 3 3 1 false := uq
theorem up : Fd Go.Proofs.Try.prog 139 4 4 1 false := zk Go.Proofs.Try.underlying139 (off := 4) (ft := 3) rfl Go.Proofs.Try.underlying3 (n := 1) (by kernel_rfl) rfl (by decide)
instance : Fd Go.Proofs.Try.prog 139 4 4 1 false := up
theorem pZ : Pl Go.Proofs.Try.prog 139 [(0, 1), (1, 1), (2, 1), (3, 1), (4, 1)] := yc Go.Proofs.Try.underlying139 (by kernel_rfl)
instance : Pl Go.Proofs.Try.prog 139 [(0, 1), (1, 1), (2, 1), (3, 1), (4, 1)] := pZ
theorem pA : Ze Go.Proofs.Try.prog 139 [.int .i64 (0), .int .i64 (0), .int .i64 (0), .int .i64 (0), .int .i64 (0)] := zm (z := .agg #[.int .i64 (0), .int .i64 (0), .int .i64 (0), .int .i64 (0), .int .i64 (0)]) (by kernel_rfl) rfl
instance : Ze Go.Proofs.Try.prog 139 [.int .i64 (0), .int .i64 (0), .int .i64 (0), .int .i64 (0), .int .i64 (0)] := pA
theorem po : Ag Go.Proofs.Try.prog 153 3 := yg Go.Proofs.Try.underlying153 (by kernel_rfl)
instance : Ag Go.Proofs.Try.prog 153 3 := po
theorem uo : Fd Go.Proofs.Try.prog 153 0 0 1 false := zk Go.Proofs.Try.underlying153 (off := 0) (ft := 22) rfl Go.Proofs.Try.underlying22 (n := 1) (by kernel_rfl) rfl (by decide)
instance : Fd Go.Proofs.Try.prog 153 0 0 1 false := uo
theorem un : Fd Go.Proofs.Try.prog 153 1 1 1 false := zk Go.Proofs.Try.underlying153 (off := 1) (ft := 3) rfl Go.Proofs.Try.underlying3 (n := 1) (by kernel_rfl) rfl (by decide)
instance : Fd Go.Proofs.Try.prog 153 1 1 1 false := un
theorem um : Fd Go.Proofs.Try.prog 153 2 2 1 false := zk Go.Proofs.Try.underlying153 (off := 2) (ft := 3) rfl Go.Proofs.Try.underlying3 (n := 1) (by kernel_rfl) rfl (by decide)
instance : Fd Go.Proofs.Try.prog 153 2 2 1 false := um
theorem pY : Pl Go.Proofs.Try.prog 153 [(0, 1), (1, 1), (2, 1)] := yc Go.Proofs.Try.underlying153 (by kernel_rfl)
instance : Pl Go.Proofs.Try.prog 153 [(0, 1), (1, 1), (2, 1)] := pY
theorem qz : Ze Go.Proofs.Try.prog 153 [.slice none 0 0, .int .i64 (0), .int .i64 (0)] := zm (z := .agg #[.slice none 0 0, .int .i64 (0), .int .i64 (0)]) (by kernel_rfl) rfl
instance : Ze Go.Proofs.Try.prog 153 [.slice none 0 0, .int .i64 (0), .int .i64 (0)] := qz
theorem pn : Ag Go.Proofs.Try.prog 154 3 := yg Go.Proofs.Try.underlying154 (by kernel_rfl)
instance : Ag Go.Proofs.Try.prog 154 3 := pn
theorem ul : Fd Go.Proofs.Try.prog 154 0 0 1 false := zk Go.Proofs.Try.underlying154 (off := 0) (ft := 22) rfl Go.Proofs.Try.underlying22 (n := 1) (by kernel_rfl) rfl (by decide)
instance : Fd Go.Proofs.Try.prog 154 0 0 1 false := ul
theorem uk : Fd Go.Proofs.Try.prog 154 1 1 1 false := zk Go.Proofs.Try.underlying154 (off := 1) (ft := 3) rfl Go.Proofs.Try.underlying3 (n := 1) (by kernel_rfl) rfl (by decide)
instance : Fd Go.Proofs.Try.prog 154 1 1 1 false := uk
theorem uj : Fd Go.Proofs.Try.prog 154 2 2 1 false := zk Go.Proofs.Try.underlying154 (off := 2) (ft := 3) rfl Go.Proofs.Try.underlying3 (n := 1) (by kernel_rfl) rfl (by decide)
instance : Fd Go.Proofs.Try.prog 154 2 2 1 false := uj
theorem pX : Pl Go.Proofs.Try.prog 154 [(0, 1), (1, 1), (2, 1)] := yc Go.Proofs.Try.underlying154 (by kernel_rfl)
instance : Pl Go.Proofs.Try.prog 154 [(0, 1), (1, 1), (2, 1)] := pX
theorem qy : Ze Go.Proofs.Try.prog 154 [.slice none 0 0, .int .i64 (0), .int .i64 (0)] := zm (z := .agg #[.slice none 0 0, .int .i64 (0), .int .i64 (0)]) (by kernel_rfl) rfl
instance : Ze Go.Proofs.Try.prog 154 [.slice none 0 0, .int .i64 (0), .int .i64 (0)] := qy
theorem pT : Sc Go.Proofs.Try.prog 159 := z7 Go.Proofs.Try.underlying159 rfl (by kernel_rfl)
instance : Sc Go.Proofs.Try.prog 159 := pT
theorem qx : Ze Go.Proofs.Try.prog 159 [.int .u64 (0)] := zm (z := .int .u64 (0)) (by kernel_rfl) rfl
instance : Ze Go.Proofs.Try.prog 159 [.int .u64 (0)] := qx
theorem pk : Ik Go.Proofs.Try.prog 159 .u64 := ⟨Go.Proofs.Try.underlying159⟩
instance : Ik Go.Proofs.Try.prog 159 .u64 := pk
theorem pS : Sc Go.Proofs.Try.prog 164 := z7 Go.Proofs.Try.underlying164 rfl (by kernel_rfl)
instance : Sc Go.Proofs.Try.prog 164 := pS
theorem qw : Ze Go.Proofs.Try.prog 164 [.int .i64 (0)] := zm (z := .int .i64 (0)) (by kernel_rfl) rfl
instance : Ze Go.Proofs.Try.prog 164 [.int .i64 (0)] := qw
theorem pj : Ik Go.Proofs.Try.prog 164 .i64 := ⟨Go.Proofs.Try.underlying164⟩
instance : Ik Go.Proofs.Try.prog 164 .i64 := pj
theorem pR : Sc Go.Proofs.Try.prog 171 := z7 Go.Proofs.Try.underlying171 rfl (by kernel_rfl)
instance : Sc Go.Proofs.Try.prog 171 := pR
theorem qv : Ze Go.Proofs.Try.prog 171 [.int .u32 (0)] := zm (z := .int .u32 (0)) (by kernel_rfl) rfl
instance : Ze Go.Proofs.Try.prog 171 [.int .u32 (0)] := qv
theorem pi : Ik Go.Proofs.Try.prog 171 .u32 := ⟨Go.Proofs.Try.underlying171⟩
instance : Ik Go.Proofs.Try.prog 171 .u32 := pi
theorem pQ : Sc Go.Proofs.Try.prog 173 := z7 Go.Proofs.Try.underlying173 rfl (by kernel_rfl)
instance : Sc Go.Proofs.Try.prog 173 := pQ
theorem qu : Ze Go.Proofs.Try.prog 173 [.int .u64 (0)] := zm (z := .int .u64 (0)) (by kernel_rfl) rfl
instance : Ze Go.Proofs.Try.prog 173 [.int .u64 (0)] := qu
theorem ph : Ik Go.Proofs.Try.prog 173 .u64 := ⟨Go.Proofs.Try.underlying173⟩
instance : Ik Go.Proofs.Try.prog 173 .u64 := ph
theorem pP : Sc Go.Proofs.Try.prog 174 := z7 Go.Proofs.Try.underlying174 rfl (by kernel_rfl)
instance : Sc Go.Proofs.Try.prog 174 := pP
theorem qt : Ze Go.Proofs.Try.prog 174 [.int .u64 (0)] := zm (z := .int .u64 (0)) (by kernel_rfl) rfl
instance : Ze Go.Proofs.Try.prog 174 [.int .u64 (0)] := qt
theorem pg : Ik Go.Proofs.Try.prog 174 .u64 := ⟨Go.Proofs.Try.underlying174⟩
instance : Ik Go.Proofs.Try.prog 174 .u64 := pg
theorem pO : Sc Go.Proofs.Try.prog 178 := z7 Go.Proofs.Try.underlying178 rfl (by kernel_rfl)
instance : Sc Go.Proofs.Try.prog 178 := pO
theorem qs : Ze Go.Proofs.Try.prog 178 [.pointer none] := zm (z := .pointer none) (by kernel_rfl) rfl
instance : Ze Go.Proofs.Try.prog 178 [.pointer none] := qs
theorem pN : Sc Go.Proofs.Try.prog 180 := z7 Go.Proofs.Try.underlying180 rfl (by kernel_rfl)
instance : Sc Go.Proofs.Try.prog 180 := pN
theorem qr : Ze Go.Proofs.Try.prog 180 [.pointer none] := zm (z := .pointer none) (by kernel_rfl) rfl
instance : Ze Go.Proofs.Try.prog 180 [.pointer none] := qr
theorem pM : Sc Go.Proofs.Try.prog 193 := z7 Go.Proofs.Try.underlying193 rfl (by kernel_rfl)
instance : Sc Go.Proofs.Try.prog 193 := pM
theorem qq : Ze Go.Proofs.Try.prog 193 [.pointer none] := zm (z := .pointer none) (by kernel_rfl) rfl
instance : Ze Go.Proofs.Try.prog 193 [.pointer none] := qq
def tab : Tab where
  ag := [(13, 2), (38, 1), (39, 1), (70, 3), (71, 3), (72, 7), (73, 7), (94, 5), (95, 5), (118, 3), (122, 1), (123, 1), (130, 7), (131, 7), (139, 5), (153, 3), (154, 3)]
  sc := [2, 3, 4, 5, 9, 12, 21, 22, 24, 27, 40, 46, 61, 64, 82, 84, 104, 114, 127, 159, 164, 171, 173, 174, 178, 180, 193]
  fd := [((13, 0), (0, 1, false)), ((13, 1), (1, 1, false)), ((38, 0), (0, 1, false)), ((39, 0), (0, 1, false)), ((70, 0), (0, 1, false)), ((70, 1), (1, 1, false)), ((70, 2), (2, 1, false)), ((71, 0), (0, 1, false)), ((71, 1), (1, 1, false)), ((71, 2), (2, 1, false)), ((72, 0), (0, 3, true)), ((72, 1), (3, 3, true)), ((72, 2), (6, 1, false)), ((73, 0), (0, 3, true)), ((73, 1), (3, 3, true)), ((73, 2), (6, 1, false)), ((94, 0), (0, 1, false)), ((94, 1), (1, 1, false)), ((94, 2), (2, 1, false)), ((94, 3), (3, 1, false)), ((94, 4), (4, 1, false)), ((95, 0), (0, 1, false)), ((95, 1), (1, 1, false)), ((95, 2), (2, 1, false)), ((95, 3), (3, 1, false)), ((95, 4), (4, 1, false)), ((118, 0), (0, 1, false)), ((118, 1), (1, 1, false)), ((118, 2), (2, 1, false)), ((122, 0), (0, 1, false)), ((123, 0), (0, 1, false)), ((130, 0), (0, 3, true)), ((130, 1), (3, 3, true)), ((130, 2), (6, 1, false)), ((131, 0), (0, 3, true)), ((131, 1), (3, 3, true)), ((131, 2), (6, 1, false)), ((139, 0), (0, 1, false)), ((139, 1), (1, 1, false)), ((139, 2), (2, 1, false)), ((139, 3), (3, 1, false)), ((139, 4), (4, 1, false)), ((153, 0), (0, 1, false)), ((153, 1), (1, 1, false)), ((153, 2), (2, 1, false)), ((154, 0), (0, 1, false)), ((154, 1), (1, 1, false)), ((154, 2), (2, 1, false))]
  ze := [(2, [.int .i64 (0)]), (3, [.int .i64 (0)]), (4, [.bool false]), (5, [.int .u8 (0)]), (9, [.string .empty]), (12, [.int .u64 (0)]), (13, [.string .empty, .int .u64 (0)]), (21, [.int .i32 (0)]), (22, [.slice none 0 0]), (24, [.slice none 0 0]), (27, [.slice none 0 0]), (38, [.slice none 0 0]), (39, [.slice none 0 0]), (40, [.slice none 0 0]), (46, [.slice none 0 0]), (61, [.slice none 0 0]), (64, [.slice none 0 0]), (70, [.int .i64 (0), .int .i64 (0), .int .i64 (0)]), (71, [.int .i64 (0), .int .i64 (0), .int .i64 (0)]), (72, [.int .i64 (0), .int .i64 (0), .int .i64 (0), .int .i64 (0), .int .i64 (0), .int .i64 (0), .bool false]), (73, [.int .i64 (0), .int .i64 (0), .int .i64 (0), .int .i64 (0), .int .i64 (0), .int .i64 (0), .bool false]), (82, [.slice none 0 0]), (84, [.slice none 0 0]), (94, [.int .i64 (0), .int .i64 (0), .int .i64 (0), .int .i64 (0), .int .i64 (0)]), (95, [.int .i64 (0), .int .i64 (0), .int .i64 (0), .int .i64 (0), .int .i64 (0)]), (104, [.pointer none]), (114, [.slice none 0 0]), (118, [.int .i64 (0), .int .i64 (0), .int .i64 (0)]), (122, [.slice none 0 0]), (123, [.slice none 0 0]), (127, [.slice none 0 0]), (130, [.int .i64 (0), .int .i64 (0), .int .i64 (0), .int .i64 (0), .int .i64 (0), .int .i64 (0), .bool false]), (131, [.int .i64 (0), .int .i64 (0), .int .i64 (0), .int .i64 (0), .int .i64 (0), .int .i64 (0), .bool false]), (139, [.int .i64 (0), .int .i64 (0), .int .i64 (0), .int .i64 (0), .int .i64 (0)]), (153, [.slice none 0 0, .int .i64 (0), .int .i64 (0)]), (154, [.slice none 0 0, .int .i64 (0), .int .i64 (0)]), (159, [.int .u64 (0)]), (164, [.int .i64 (0)]), (171, [.int .u32 (0)]), (173, [.int .u64 (0)]), (174, [.int .u64 (0)]), (178, [.pointer none]), (180, [.pointer none]), (193, [.pointer none])]
  pl := [(13, [(0, 1), (1, 1)]), (38, [(0, 1)]), (39, [(0, 1)]), (70, [(0, 1), (1, 1), (2, 1)]), (71, [(0, 1), (1, 1), (2, 1)]), (72, [(0, 3), (3, 3), (6, 1)]), (73, [(0, 3), (3, 3), (6, 1)]), (94, [(0, 1), (1, 1), (2, 1), (3, 1), (4, 1)]), (95, [(0, 1), (1, 1), (2, 1), (3, 1), (4, 1)]), (118, [(0, 1), (1, 1), (2, 1)]), (122, [(0, 1)]), (123, [(0, 1)]), (130, [(0, 3), (3, 3), (6, 1)]), (131, [(0, 3), (3, 3), (6, 1)]), (139, [(0, 1), (1, 1), (2, 1), (3, 1), (4, 1)]), (153, [(0, 1), (1, 1), (2, 1)]), (154, [(0, 1), (1, 1), (2, 1)])]
  sl := [(22, (5, 1, 1)), (24, (71, 3, 24)), (27, (39, 1, 24)), (40, (118, 3, 24)), (46, (123, 1, 24)), (61, (131, 7, 56)), (64, (73, 7, 56)), (82, (139, 5, 40)), (84, (95, 5, 40)), (114, (9, 1, 16)), (127, (3, 1, 8))]
  ik := [(2, .i64), (3, .i64), (5, .u8), (12, .u64), (21, .i32), (159, .u64), (164, .i64), (171, .u32), (173, .u64), (174, .u64)]
  str := [9]
  bl := [4]
instance : TabC Go.Proofs.Try.prog tab := ⟨{ ag := zA ag13 (zA ag38 (zA ag39 (zA ag70 (zA ag71 (zA ag72 (zA ag73 (zA ag94 (zA ag95 (zA pv (zA pu (zA pt (zA pr (zA pq (zA pp (zA po (zA pn (ym))))))))))))))))), sc := zA sc2 (zA sc3 (zA sc4 (zA sc5 (zA sc9 (zA sc12 (zA sc21 (zA sc22 (zA sc24 (zA sc27 (zA sc40 (zA sc46 (zA sc61 (zA sc64 (zA sc82 (zA sc84 (zA pW (zA pV (zA pU (zA pT (zA pS (zA pR (zA pQ (zA pP (zA pO (zA pN (zA pM (ym))))))))))))))))))))))))))), fd := zA s2 (zA s1 (zA s0 (zA sz (zA sy (zA sx (zA sw (zA sv (zA su (zA st (zA ss (zA sr (zA sq (zA so (zA sn (zA sm (zA sk (zA sj (zA si (zA sh (zA sg (zA sf (zA se (zA sd (zA sb (zA sa (zA u5 (zA u4 (zA u3 (zA u2 (zA u1 (zA u0 (zA uz (zA uy (zA ux (zA uw (zA uv (zA uu (zA ut (zA ur (zA uq (zA up (zA uo (zA un (zA um (zA ul (zA uk (zA uj (ym)))))))))))))))))))))))))))))))))))))))))))))))), ze := zA ze2 (zA ze3 (zA ze4 (zA ze5 (zA ze9 (zA ze12 (zA ze13 (zA ze21 (zA ze22 (zA ze24 (zA ze27 (zA ze38 (zA ze39 (zA ze40 (zA ze46 (zA ze61 (zA ze64 (zA ze70 (zA ze71 (zA ze72 (zA ze73 (zA ze82 (zA ze84 (zA ze94 (zA ze95 (zA pI (zA pH (zA pG (zA pF (zA pE (zA pD (zA pC (zA pB (zA pA (zA qz (zA qy (zA qx (zA qw (zA qv (zA qu (zA qt (zA qs (zA qr (zA qq (ym)))))))))))))))))))))))))))))))))))))))))))), pl := zA pl13 (zA pl38 (zA pl39 (zA pl70 (zA pl71 (zA pl72 (zA pl73 (zA pl94 (zA pl95 (zA pe (zA pd (zA pc (zA pb (zA pa (zA pZ (zA pY (zA pX (ym))))))))))))))))), sl := zA sl22 (zA sl24 (zA sl27 (zA sl40 (zA sl46 (zA sl61 (zA sl64 (zA sl82 (zA sl84 (zA pL (zA pK (ym))))))))))), ik := zA ik2 (zA ik3 (zA ik5 (zA ik12 (zA ik21 (zA pk (zA pj (zA pi (zA ph (zA pg (ym)))))))))), str := zA str9 (ym), bl := zA bl4 (ym) }, by kernel_rfl⟩
instance : Ent Go.Proofs.Try.prog 3 := zB Go.Proofs.Try.func3 rfl (by decide)
instance : Ent Go.Proofs.Try.prog 4 := zB Go.Proofs.Try.func4 rfl (by decide)
instance : Ent Go.Proofs.Try.prog 5 := zB Go.Proofs.Try.func5 rfl (by decide)
instance : Ent Go.Proofs.Try.prog 6 := zB Go.Proofs.Try.func6 rfl (by decide)
instance : Ent Go.Proofs.Try.prog 7 := zB Go.Proofs.Try.func7 rfl (by decide)
instance : Ent Go.Proofs.Try.prog 8 := zB Go.Proofs.Try.func8 rfl (by decide)
instance : Ent Go.Proofs.Try.prog 9 := zB Go.Proofs.Try.func9 rfl (by decide)
instance : Ent Go.Proofs.Try.prog 10 := zB Go.Proofs.Try.func10 rfl (by decide)
instance : Ent Go.Proofs.Try.prog 11 := zB Go.Proofs.Try.func11 rfl (by decide)
instance : Ent Go.Proofs.Try.prog 12 := zB Go.Proofs.Try.func12 rfl (by decide)
instance : Ent Go.Proofs.Try.prog 13 := zB Go.Proofs.Try.func13 rfl (by decide)
instance : Ent Go.Proofs.Try.prog 14 := zB Go.Proofs.Try.func14 rfl (by decide)
instance : Ent Go.Proofs.Try.prog 15 := zB Go.Proofs.Try.func15 rfl (by decide)
instance : Ent Go.Proofs.Try.prog 16 := zB Go.Proofs.Try.func16 rfl (by decide)
instance : Ent Go.Proofs.Try.prog 17 := zB Go.Proofs.Try.func17 rfl (by decide)
instance : Ent Go.Proofs.Try.prog 18 := zB Go.Proofs.Try.func18 rfl (by decide)
instance : Ent Go.Proofs.Try.prog 19 := zB Go.Proofs.Try.func19 rfl (by decide)
instance : Ent Go.Proofs.Try.prog 20 := zB Go.Proofs.Try.func20 rfl (by decide)
instance : Ent Go.Proofs.Try.prog 21 := zB Go.Proofs.Try.func21 rfl (by decide)
instance : Ent Go.Proofs.Try.prog 22 := zB Go.Proofs.Try.func22 rfl (by decide)
instance : Ent Go.Proofs.Try.prog 23 := zB Go.Proofs.Try.func23 rfl (by decide)
instance : Ent Go.Proofs.Try.prog 24 := zB Go.Proofs.Try.func24 rfl (by decide)
instance : Ent Go.Proofs.Try.prog 25 := zB Go.Proofs.Try.func25 rfl (by decide)
instance : Ent Go.Proofs.Try.prog 26 := zB Go.Proofs.Try.func26 rfl (by decide)
instance : Ent Go.Proofs.Try.prog 27 := zB Go.Proofs.Try.func27 rfl (by decide)
instance : Ent Go.Proofs.Try.prog 28 := zB Go.Proofs.Try.func28 rfl (by decide)
instance : Ent Go.Proofs.Try.prog 29 := zB Go.Proofs.Try.func29 rfl (by decide)
instance : Ent Go.Proofs.Try.prog 30 := zB Go.Proofs.Try.func30 rfl (by decide)
instance : Ent Go.Proofs.Try.prog 31 := zB Go.Proofs.Try.func31 rfl (by decide)
instance : Ent Go.Proofs.Try.prog 32 := zB Go.Proofs.Try.func32 rfl (by decide)
instance : Ent Go.Proofs.Try.prog 33 := zB Go.Proofs.Try.func33 rfl (by decide)
instance : Ent Go.Proofs.Try.prog 34 := zB Go.Proofs.Try.func34 rfl (by decide)
instance : Ent Go.Proofs.Try.prog 35 := zB Go.Proofs.Try.func35 rfl (by decide)
instance : Ent Go.Proofs.Try.prog 36 := zB Go.Proofs.Try.func36 rfl (by decide)
instance : Ent Go.Proofs.Try.prog 37 := zB Go.Proofs.Try.func37 rfl (by decide)
instance : Ent Go.Proofs.Try.prog 38 := zB Go.Proofs.Try.func38 rfl (by decide)
instance : Ent Go.Proofs.Try.prog 39 := zB Go.Proofs.Try.func39 rfl (by decide)
instance : Ent Go.Proofs.Try.prog 40 := zB Go.Proofs.Try.func40 rfl (by decide)
instance : Ent Go.Proofs.Try.prog 41 := zB Go.Proofs.Try.func41 rfl (by decide)
instance : Ent Go.Proofs.Try.prog 42 := zB Go.Proofs.Try.func42 rfl (by decide)
instance : Ent Go.Proofs.Try.prog 43 := zB Go.Proofs.Try.func43 rfl (by decide)
instance : Ent Go.Proofs.Try.prog 44 := zB Go.Proofs.Try.func44 rfl (by decide)
instance : Ent Go.Proofs.Try.prog 45 := zB Go.Proofs.Try.func45 rfl (by decide)
instance : Ent Go.Proofs.Try.prog 46 := zB Go.Proofs.Try.func46 rfl (by decide)
instance : Ent Go.Proofs.Try.prog 47 := zB Go.Proofs.Try.func47 rfl (by decide)
instance : Ent Go.Proofs.Try.prog 48 := zB Go.Proofs.Try.func48 rfl (by decide)
instance : Ent Go.Proofs.Try.prog 49 := zB Go.Proofs.Try.func49 rfl (by decide)
instance : Ent Go.Proofs.Try.prog 50 := zB Go.Proofs.Try.func50 rfl (by decide)
instance : Ent Go.Proofs.Try.prog 51 := zB Go.Proofs.Try.func51 rfl (by decide)
instance : Ent Go.Proofs.Try.prog 52 := zB Go.Proofs.Try.func52 rfl (by decide)
instance : Ent Go.Proofs.Try.prog 53 := zB Go.Proofs.Try.func53 rfl (by decide)
instance : Ent Go.Proofs.Try.prog 54 := zB Go.Proofs.Try.func54 rfl (by decide)
instance : Ent Go.Proofs.Try.prog 55 := zB Go.Proofs.Try.func55 rfl (by decide)
instance : Ent Go.Proofs.Try.prog 56 := zB Go.Proofs.Try.func56 rfl (by decide)
instance : Ent Go.Proofs.Try.prog 57 := zB Go.Proofs.Try.func57 rfl (by decide)
instance : Ent Go.Proofs.Try.prog 58 := zB Go.Proofs.Try.func58 rfl (by decide)
instance : Ent Go.Proofs.Try.prog 59 := zB Go.Proofs.Try.func59 rfl (by decide)
instance : Ent Go.Proofs.Try.prog 60 := zB Go.Proofs.Try.func60 rfl (by decide)
instance : Ent Go.Proofs.Try.prog 61 := zB Go.Proofs.Try.func61 rfl (by decide)
instance : Ent Go.Proofs.Try.prog 62 := zB Go.Proofs.Try.func62 rfl (by decide)
instance : Ent Go.Proofs.Try.prog 63 := zB Go.Proofs.Try.func63 rfl (by decide)
instance : Ent Go.Proofs.Try.prog 64 := zB Go.Proofs.Try.func64 rfl (by decide)
instance : Ent Go.Proofs.Try.prog 65 := zB Go.Proofs.Try.func65 rfl (by decide)
instance : Ent Go.Proofs.Try.prog 66 := zB Go.Proofs.Try.func66 rfl (by decide)
instance : Ent Go.Proofs.Try.prog 67 := zB Go.Proofs.Try.func67 rfl (by decide)
instance : Ent Go.Proofs.Try.prog 68 := zB Go.Proofs.Try.func68 rfl (by decide)
instance : Ent Go.Proofs.Try.prog 69 := zB Go.Proofs.Try.func69 rfl (by decide)
instance : Ent Go.Proofs.Try.prog 70 := zB Go.Proofs.Try.func70 rfl (by decide)
instance : Ent Go.Proofs.Try.prog 71 := zB Go.Proofs.Try.func71 rfl (by decide)
instance : Ent Go.Proofs.Try.prog 72 := zB Go.Proofs.Try.func72 rfl (by decide)
instance : Ent Go.Proofs.Try.prog 73 := zB Go.Proofs.Try.func73 rfl (by decide)
instance : Ent Go.Proofs.Try.prog 74 := zB Go.Proofs.Try.func74 rfl (by decide)
instance : Ent Go.Proofs.Try.prog 75 := zB Go.Proofs.Try.func75 rfl (by decide)
instance : Ent Go.Proofs.Try.prog 76 := zB Go.Proofs.Try.func76 rfl (by decide)
instance : Ent Go.Proofs.Try.prog 77 := zB Go.Proofs.Try.func77 rfl (by decide)
instance : Ent Go.Proofs.Try.prog 78 := zB Go.Proofs.Try.func78 rfl (by decide)
instance : Ent Go.Proofs.Try.prog 79 := zB Go.Proofs.Try.func79 rfl (by decide)
instance : Ent Go.Proofs.Try.prog 80 := zB Go.Proofs.Try.func80 rfl (by decide)
instance : Ent Go.Proofs.Try.prog 81 := zB Go.Proofs.Try.func81 rfl (by decide)
instance : Ent Go.Proofs.Try.prog 82 := zB Go.Proofs.Try.func82 rfl (by decide)
instance : Ent Go.Proofs.Try.prog 83 := zB Go.Proofs.Try.func83 rfl (by decide)
instance : Ent Go.Proofs.Try.prog 84 := zB Go.Proofs.Try.func84 rfl (by decide)
instance : Ent Go.Proofs.Try.prog 85 := zB Go.Proofs.Try.func85 rfl (by decide)
instance : Ent Go.Proofs.Try.prog 86 := zB Go.Proofs.Try.func86 rfl (by decide)
instance : Ent Go.Proofs.Try.prog 87 := zB Go.Proofs.Try.func87 rfl (by decide)
instance : Ent Go.Proofs.Try.prog 88 := zB Go.Proofs.Try.func88 rfl (by decide)
instance : Ent Go.Proofs.Try.prog 89 := zB Go.Proofs.Try.func89 rfl (by decide)
instance : Ent Go.Proofs.Try.prog 90 := zB Go.Proofs.Try.func90 rfl (by decide)
instance : Ent Go.Proofs.Try.prog 91 := zB Go.Proofs.Try.func91 rfl (by decide)
instance : Ent Go.Proofs.Try.prog 92 := zB Go.Proofs.Try.func92 rfl (by decide)
instance : Ent Go.Proofs.Try.prog 93 := zB Go.Proofs.Try.func93 rfl (by decide)
instance : Ent Go.Proofs.Try.prog 94 := zB Go.Proofs.Try.func94 rfl (by decide)
instance : Ent Go.Proofs.Try.prog 95 := zB Go.Proofs.Try.func95 rfl (by decide)
instance : Ent Go.Proofs.Try.prog 96 := zB Go.Proofs.Try.func96 rfl (by decide)
instance : Ent Go.Proofs.Try.prog 97 := zB Go.Proofs.Try.func97 rfl (by decide)
instance : Ent Go.Proofs.Try.prog 98 := zB Go.Proofs.Try.func98 rfl (by decide)
instance : Ent Go.Proofs.Try.prog 99 := zB Go.Proofs.Try.func99 rfl (by decide)
instance : Ent Go.Proofs.Try.prog 100 := zB Go.Proofs.Try.func100 rfl (by decide)
instance : Ent Go.Proofs.Try.prog 101 := zB Go.Proofs.Try.func101 rfl (by decide)
instance : Ent Go.Proofs.Try.prog 102 := zB Go.Proofs.Try.func102 rfl (by decide)
instance : Ent Go.Proofs.Try.prog 103 := zB Go.Proofs.Try.func103 rfl (by decide)
instance : Ent Go.Proofs.Try.prog 104 := zB Go.Proofs.Try.func104 rfl (by decide)
instance : Ent Go.Proofs.Try.prog 105 := zB Go.Proofs.Try.func105 rfl (by decide)
instance : Ent Go.Proofs.Try.prog 106 := zB Go.Proofs.Try.func106 rfl (by decide)
instance : Ent Go.Proofs.Try.prog 107 := zB Go.Proofs.Try.func107 rfl (by decide)
instance : Ent Go.Proofs.Try.prog 108 := zB Go.Proofs.Try.func108 rfl (by decide)
instance : Ent Go.Proofs.Try.prog 109 := zB Go.Proofs.Try.func109 rfl (by decide)
instance : Ent Go.Proofs.Try.prog 110 := zB Go.Proofs.Try.func110 rfl (by decide)
instance : Ent Go.Proofs.Try.prog 111 := zB Go.Proofs.Try.func111 rfl (by decide)
instance : Ent Go.Proofs.Try.prog 112 := zB Go.Proofs.Try.func112 rfl (by decide)
instance : Ent Go.Proofs.Try.prog 113 := zB Go.Proofs.Try.func113 rfl (by decide)
instance : Ent Go.Proofs.Try.prog 114 := zB Go.Proofs.Try.func114 rfl (by decide)
instance : Ent Go.Proofs.Try.prog 115 := zB Go.Proofs.Try.func115 rfl (by decide)
instance : Ent Go.Proofs.Try.prog 116 := zB Go.Proofs.Try.func116 rfl (by decide)
instance : Ent Go.Proofs.Try.prog 117 := zB Go.Proofs.Try.func117 rfl (by decide)
instance : Ent Go.Proofs.Try.prog 118 := zB Go.Proofs.Try.func118 rfl (by decide)
instance : Ent Go.Proofs.Try.prog 119 := zB Go.Proofs.Try.func119 rfl (by decide)
instance : Ent Go.Proofs.Try.prog 120 := zB Go.Proofs.Try.func120 rfl (by decide)
instance : Ent Go.Proofs.Try.prog 121 := zB Go.Proofs.Try.func121 rfl (by decide)
instance : Ent Go.Proofs.Try.prog 122 := zB Go.Proofs.Try.func122 rfl (by decide)
instance : Ent Go.Proofs.Try.prog 123 := zB Go.Proofs.Try.func123 rfl (by decide)
instance : Ent Go.Proofs.Try.prog 124 := zB Go.Proofs.Try.func124 rfl (by decide)
instance : Ent Go.Proofs.Try.prog 125 := zB Go.Proofs.Try.func125 rfl (by decide)
instance : Ent Go.Proofs.Try.prog 126 := zB Go.Proofs.Try.func126 rfl (by decide)
instance : Ent Go.Proofs.Try.prog 127 := zB Go.Proofs.Try.func127 rfl (by decide)
instance : Ent Go.Proofs.Try.prog 128 := zB Go.Proofs.Try.func128 rfl (by decide)
instance : Ent Go.Proofs.Try.prog 129 := zB Go.Proofs.Try.func129 rfl (by decide)
instance : Ent Go.Proofs.Try.prog 130 := zB Go.Proofs.Try.func130 rfl (by decide)
instance : Ent Go.Proofs.Try.prog 131 := zB Go.Proofs.Try.func131 rfl (by decide)
instance : Ent Go.Proofs.Try.prog 132 := zB Go.Proofs.Try.func132 rfl (by decide)
instance : Ent Go.Proofs.Try.prog 133 := zB Go.Proofs.Try.func133 rfl (by decide)
instance : Ent Go.Proofs.Try.prog 134 := zB Go.Proofs.Try.func134 rfl (by decide)
instance : Ent Go.Proofs.Try.prog 135 := zB Go.Proofs.Try.func135 rfl (by decide)
instance : Ent Go.Proofs.Try.prog 136 := zB Go.Proofs.Try.func136 rfl (by decide)
instance : Ent Go.Proofs.Try.prog 137 := zB Go.Proofs.Try.func137 rfl (by decide)
instance : Ent Go.Proofs.Try.prog 138 := zB Go.Proofs.Try.func138 rfl (by decide)
instance : Ent Go.Proofs.Try.prog 139 := zB Go.Proofs.Try.func139 rfl (by decide)
instance : Ent Go.Proofs.Try.prog 140 := zB Go.Proofs.Try.func140 rfl (by decide)
instance : Ent Go.Proofs.Try.prog 141 := zB Go.Proofs.Try.func141 rfl (by decide)
instance : Ent Go.Proofs.Try.prog 142 := zB Go.Proofs.Try.func142 rfl (by decide)
instance : Ent Go.Proofs.Try.prog 143 := zB Go.Proofs.Try.func143 rfl (by decide)
instance : Ent Go.Proofs.Try.prog 144 := zB Go.Proofs.Try.func144 rfl (by decide)
instance : Ent Go.Proofs.Try.prog 145 := zB Go.Proofs.Try.func145 rfl (by decide)
instance : Ent Go.Proofs.Try.prog 146 := zB Go.Proofs.Try.func146 rfl (by decide)
instance : Ent Go.Proofs.Try.prog 147 := zB Go.Proofs.Try.func147 rfl (by decide)
instance : Ent Go.Proofs.Try.prog 148 := zB Go.Proofs.Try.func148 rfl (by decide)
instance : Ent Go.Proofs.Try.prog 149 := zB Go.Proofs.Try.func149 rfl (by decide)
instance : Ent Go.Proofs.Try.prog 150 := zB Go.Proofs.Try.func150 rfl (by decide)
instance : Ent Go.Proofs.Try.prog 151 := zB Go.Proofs.Try.func151 rfl (by decide)
instance : Ent Go.Proofs.Try.prog 152 := zB Go.Proofs.Try.func152 rfl (by decide)
instance : Ent Go.Proofs.Try.prog 153 := zB Go.Proofs.Try.func153 rfl (by decide)
instance : Ent Go.Proofs.Try.prog 154 := zB Go.Proofs.Try.func154 rfl (by decide)
instance : Ent Go.Proofs.Try.prog 155 := zB Go.Proofs.Try.func155 rfl (by decide)
instance : Ent Go.Proofs.Try.prog 156 := zB Go.Proofs.Try.func156 rfl (by decide)
instance : Ent Go.Proofs.Try.prog 157 := zB Go.Proofs.Try.func157 rfl (by decide)
instance : Ent Go.Proofs.Try.prog 158 := zB Go.Proofs.Try.func158 rfl (by decide)
instance : Ent Go.Proofs.Try.prog 159 := zB Go.Proofs.Try.func159 rfl (by decide)
instance : Ent Go.Proofs.Try.prog 160 := zB Go.Proofs.Try.func160 rfl (by decide)
instance : Ent Go.Proofs.Try.prog 161 := zB Go.Proofs.Try.func161 rfl (by decide)
instance : Ent Go.Proofs.Try.prog 162 := zB Go.Proofs.Try.func162 rfl (by decide)
instance : Ent Go.Proofs.Try.prog 163 := zB Go.Proofs.Try.func163 rfl (by decide)
instance : Ent Go.Proofs.Try.prog 164 := zB Go.Proofs.Try.func164 rfl (by decide)
instance : Ent Go.Proofs.Try.prog 165 := zB Go.Proofs.Try.func165 rfl (by decide)
instance : Ent Go.Proofs.Try.prog 166 := zB Go.Proofs.Try.func166 rfl (by decide)
instance : Ent Go.Proofs.Try.prog 167 := zB Go.Proofs.Try.func167 rfl (by decide)
instance : Ent Go.Proofs.Try.prog 168 := zB Go.Proofs.Try.func168 rfl (by decide)
instance : Ent Go.Proofs.Try.prog 169 := zB Go.Proofs.Try.func169 rfl (by decide)
instance : Ent Go.Proofs.Try.prog 170 := zB Go.Proofs.Try.func170 rfl (by decide)
instance : Ent Go.Proofs.Try.prog 171 := zB Go.Proofs.Try.func171 rfl (by decide)
instance : Ent Go.Proofs.Try.prog 172 := zB Go.Proofs.Try.func172 rfl (by decide)
instance : Ent Go.Proofs.Try.prog 173 := zB Go.Proofs.Try.func173 rfl (by decide)
instance : Ent Go.Proofs.Try.prog 174 := zB Go.Proofs.Try.func174 rfl (by decide)
instance : Ent Go.Proofs.Try.prog 175 := zB Go.Proofs.Try.func175 rfl (by decide)
instance : Ent Go.Proofs.Try.prog 176 := zB Go.Proofs.Try.func176 rfl (by decide)
instance : Ent Go.Proofs.Try.prog 177 := zB Go.Proofs.Try.func177 rfl (by decide)
instance : Ent Go.Proofs.Try.prog 178 := zB Go.Proofs.Try.func178 rfl (by decide)
instance : Ent Go.Proofs.Try.prog 179 := zB Go.Proofs.Try.func179 rfl (by decide)
instance : Ent Go.Proofs.Try.prog 180 := zB Go.Proofs.Try.func180 rfl (by decide)
instance : Ent Go.Proofs.Try.prog 181 := zB Go.Proofs.Try.func181 rfl (by decide)
instance : Ent Go.Proofs.Try.prog 182 := zB Go.Proofs.Try.func182 rfl (by decide)
instance : Ent Go.Proofs.Try.prog 183 := zB Go.Proofs.Try.func183 rfl (by decide)
instance : Ent Go.Proofs.Try.prog 184 := zB Go.Proofs.Try.func184 rfl (by decide)
instance : Ent Go.Proofs.Try.prog 185 := zB Go.Proofs.Try.func185 rfl (by decide)
instance : Ent Go.Proofs.Try.prog 186 := zB Go.Proofs.Try.func186 rfl (by decide)
end Go.Proofs.Ytkcicbigpbdjpaa.Ab
namespace Go.Proofs.Ytkcicbigpbdjpaa.Ab
open Go.RowKit
structure Rw where
  a : Int
  b : Int
  c : Int
def rwE (r : Rw) : List V := [I r.a, I r.b, I r.c]
def rwT : Ty Rw := ⟨3, rwE, fun _ => rfl, by decide, fun r c hc => by
  simp only [rwE, List.mem_cons, List.not_mem_nil, or_false] at hc
  rcases hc with rfl | rfl | rfl <;> exact ⟨rfl, rfl⟩⟩
abbrev rwL (xs : List Rw) : V := xp rwT xs
abbrev rwR (xs : List Rw) : Reg := yJ rwT 71 xs
def szL (n : Nat) (left : Int) : Int := cond (decide (IntKind.i64.wrap (left - n) < 0)) (-1) (IntKind.i64.wrap (left - n))
theorem vv (xs : List Rw) (left : Int) : zp Go.Proofs.Try.prog 33 [rwL xs, I left] [] (I (szL xs.length left)) [] false := by
  refine zu [4] Go.Proofs.Try.func33 rfl rfl ?_
  simp only [Go.Proofs.Try.ntmps33, List.length_cons, List.length_nil, Nat.reduceAdd, Nat.reduceSub, List.replicate_succ, List.replicate_zero, List.cons_append, List.nil_append]
  repeat' first | refine zM ?_ | refine zC ?_ | refine zR [] ?_ | (refine isA ?_; refine zc rfl ?_) | (refine isL ?_; refine zU rfl (by kernel_rfl) rfl rfl ?_) | (refine zd rfl ?_; refine zT rfl (by kernel_rfl) rfl rfl ?_) | refine zj rfl (fun _ => ?_) (fun _ => ?_) | (refine vr rfl rfl ?_; simp only [szL, *, cond_true, cond_false]; done) | refine zD ?_ | refine zE _ rfl (by kernel_rfl) ?_ | refine zV rfl ?_ | refine zW rfl ?_ | refine zF ?_ | with_reducible refine zL ?_ | refine zJ ?_ | refine zK ?_ | (with_reducible first | refine zO ?_ | refine zP ?_ | refine zG ?_ | refine zI ?_ | refine zH ?_) | refine zQ ?_
theorem wL (c : Rw) : zp Go.Proofs.Try.prog 123 [.agg (rwE c)] [] (.agg (rwE c)) [] true := by
  refine yx 2 71 Go.Proofs.Try.func123 rfl rfl ?_
  simp only [Go.Proofs.Try.ntmps123, List.length_cons, List.length_nil, Nat.reduceAdd, Nat.reduceSub, List.replicate_succ, List.replicate_zero, List.cons_append, List.nil_append]
  repeat' first | refine zM ?_ | refine zC ?_ | refine zR [] ?_ | (refine isA ?_; refine zc rfl ?_) | (refine isL ?_; refine zU rfl (by kernel_rfl) rfl rfl ?_) | (refine zd rfl ?_; refine zT rfl (by kernel_rfl) rfl rfl ?_) | exact uJ (y7 rfl rfl rfl rfl rfl) (.same rfl) | refine zD ?_ | refine zE _ rfl (by kernel_rfl) ?_ | refine zV rfl ?_ | refine zW rfl ?_ | refine zF ?_ | with_reducible refine zL ?_ | refine zJ ?_ | refine zK ?_ | (with_reducible first | refine zO ?_ | refine zP ?_ | refine zG ?_ | refine zI ?_ | refine zH ?_) | refine zQ ?_
def z3 : Rw := ⟨0, 0, 0⟩
theorem y0 (xs : List Rw) (hl : xs.length ≤ 1000000000) : zp Go.Proofs.Try.prog 34 [rwL xs] [] (rwL xs) [] true := by
  refine zu [2] Go.Proofs.Try.func34 rfl rfl ?_
  simp only [Go.Proofs.Try.ntmps34, List.length_cons, List.length_nil, Nat.reduceAdd, Nat.reduceSub, List.replicate_succ, List.replicate_zero, List.cons_append, List.nil_append]
  repeat' first | refine zM ?_ | refine zC ?_ | refine zR [] ?_ | (refine isA ?_; refine zc rfl ?_) | (refine isL ?_; refine zU rfl (by kernel_rfl) rfl rfl ?_) | (refine zd rfl ?_; refine zT rfl (by kernel_rfl) rfl rfl ?_) | refine zg rfl (qV rwT z3 rfl rfl rfl hl rfl rfl rfl) rfl ?_ | refine zY rfl (by kernel_rfl) rfl (qV rwT z3 rfl rfl rfl hl rfl rfl rfl) rfl ?_ | refine zD ?_ | refine zE _ rfl (by kernel_rfl) ?_ | refine zV rfl ?_ | refine zW rfl ?_ | refine zF ?_ | with_reducible refine zL ?_ | refine zJ ?_ | refine zK ?_ | (with_reducible first | refine zO ?_ | refine zP ?_ | refine zG ?_ | refine zI ?_ | refine zH ?_) | refine zQ ?_
  refine yN (α := { i : Nat // i ≤ xs.length }) (fun i => ⟨[rwL xs, .any, .any, .sl 0 0 xs.length, I i.1, .any, .any, .any, .any, .any, .any, .any, .any, .any, .any, .any, .any, .any, .any, .any, .any, .any, .any], [yJ rwT 71 (xs.take i.1 ++ List.replicate (xs.length - i.1) z3)], 0⟩) (fun i => xs.length - i.1) ⟨0, Nat.zero_le _⟩ ?_ ?_
  · exact yv [0] rfl rfl (by decide) (.cons rfl rfl rfl rfl (zw (zS _ _)) .nil) (by repeat' first | exact zi | refine zf ?_ ?_ | exact zv | exact le_refl rfl | exact zx rfl rfl | exact zy rfl)
  · rintro ⟨i, hi⟩
    repeat' first | refine zM ?_ | refine zC ?_ | refine zR [] ?_ | (refine isA ?_; refine zc rfl ?_) | (refine isL ?_; refine zU rfl (by kernel_rfl) rfl rfl ?_) | (refine zd rfl ?_; refine zT rfl (by kernel_rfl) rfl rfl ?_) | refine zD ?_ | refine zE _ rfl (by kernel_rfl) ?_ | refine zV rfl ?_ | refine zW rfl ?_ | refine zF ?_ | with_reducible refine zL ?_ | refine zJ ?_ | refine zK ?_ | (with_reducible first | refine zO ?_ | refine zP ?_ | refine zG ?_ | refine zI ?_ | refine zH ?_) | refine zQ ?_
    refine zj rfl (fun h => ?_) (fun h => ?_)
    · have hlt : i < xs.length := by simpa using h
      obtain ⟨z, hz⟩ : ∃ z, xs[i]? = some z := ⟨_, List.getElem?_eq_getElem hlt⟩
      repeat' first | refine zM ?_ | refine zC ?_ | refine zR [] ?_ | (refine isA ?_; refine zc rfl ?_) | (refine isL ?_; refine zU rfl (by kernel_rfl) rfl rfl ?_) | (refine zd rfl ?_; refine zT rfl (by kernel_rfl) rfl rfl ?_) | refine zg rfl (yO (z := z) rfl rfl rfl rfl (Int.natCast_nonneg _) hz) rfl ?_ | refine zY rfl (by kernel_rfl) rfl (yO (z := z) rfl rfl rfl rfl (Int.natCast_nonneg _) hz) rfl ?_ | refine zg rfl (zZ rfl (wL _) (.cons (.same rfl) .nil) rfl) rfl ?_ | refine zY rfl (by kernel_rfl) rfl (zZ rfl (wL _) (.cons (.same rfl) .nil) rfl) rfl ?_ | refine zg rfl (yD rfl rfl rfl (Nat.zero_le _) rfl rfl (Int.natCast_nonneg _) (by simpa using hlt)) rfl ?_ | refine zY rfl (by kernel_rfl) rfl (yD rfl rfl rfl (Nat.zero_le _) rfl rfl (Int.natCast_nonneg _) (by simpa using hlt)) rfl ?_ | refine zg rfl (wn rfl rfl rfl rfl rfl (by simp; omega)) rfl ?_ | refine zY rfl (by kernel_rfl) rfl (wn rfl rfl rfl rfl rfl (by simp; omega)) rfl ?_ | refine zD ?_ | refine zE _ rfl (by kernel_rfl) ?_ | refine zV rfl ?_ | refine zW rfl ?_ | refine zF ?_ | with_reducible refine zL ?_ | refine zJ ?_ | refine zK ?_ | (with_reducible first | refine zO ?_ | refine zP ?_ | refine zG ?_ | refine zI ?_ | refine zH ?_) | refine zQ ?_
      refine ⟨⟨i + 1, hlt⟩, by simp only; omega, ?_⟩
      exact yv [0] rfl rfl (by decide) (.cons rfl rfl rfl rfl (xf (by rw [Nat.zero_add]; exact congrArg rwT.flat (wu (xs := xs) hz rfl)) (zS _ _)) .nil) (by repeat' first | exact zi | refine zf ?_ ?_ | exact zv | exact le_refl rfl | exact zx rfl rfl | exact zy rfl | exact xg (by assumption) (by omega))
    · have hge : i = xs.length := by
        have : ¬ ((i : Int) < xs.length) := by simpa using h
        omega
      subst hge
      repeat' first | refine zM ?_ | refine zC ?_ | refine zR [] ?_ | (refine isA ?_; refine zc rfl ?_) | (refine isL ?_; refine zU rfl (by kernel_rfl) rfl rfl ?_) | (refine zd rfl ?_; refine zT rfl (by kernel_rfl) rfl rfl ?_) | exact finP rfl (sM rfl rfl (by simp) rfl) | refine zD ?_ | refine zE _ rfl (by kernel_rfl) ?_ | refine zV rfl ?_ | refine zW rfl ?_ | refine zF ?_ | with_reducible refine zL ?_ | refine zJ ?_ | refine zK ?_ | (with_reducible first | refine zO ?_ | refine zP ?_ | refine zG ?_ | refine zI ?_ | refine zH ?_) | refine zQ ?_
def eqC (x y : Rw) : Bool := bif !(decide (x.a = y.a)) then false else bif !(decide (x.b = y.b)) then false else bif !(decide (x.c = y.c)) then false else true
theorem s3 (x : Rw) : eqC x x = true := by simp [eqC]
theorem ql (x y : Rw) : zp Go.Proofs.Try.prog 125 [.agg (rwE x), .agg (rwE y)] [] (B (eqC x y)) [] false := by
  refine zu [4] Go.Proofs.Try.func125 rfl rfl ?_
  simp only [Go.Proofs.Try.ntmps125, List.length_cons, List.length_nil, Nat.reduceAdd, Nat.reduceSub, List.replicate_succ, List.replicate_zero, List.cons_append, List.nil_append]
  repeat' first | refine zM ?_ | refine zC ?_ | refine zR [] ?_ | (refine isA ?_; refine zc rfl ?_) | (refine isL ?_; refine zU rfl (by kernel_rfl) rfl rfl ?_) | (refine zd rfl ?_; refine zT rfl (by kernel_rfl) rfl rfl ?_) | refine zj rfl (fun _ => ?_) (fun _ => ?_) | (refine vr rfl rfl ?_; simp only [eqC, *, cond_true, cond_false]; done) | refine zD ?_ | refine zE _ rfl (by kernel_rfl) ?_ | refine zV rfl ?_ | refine zW rfl ?_ | refine zF ?_ | with_reducible refine zL ?_ | refine zJ ?_ | refine zK ?_ | (with_reducible first | refine zO ?_ | refine zP ?_ | refine zG ?_ | refine zI ?_ | refine zH ?_) | refine zQ ?_
def eqL : List Rw → List Rw → Bool
  | [], [] => true
  | x :: xs, y :: ys => eqC x y && eqL xs ys
  | _, _ => false
theorem vx (x : Rw) : zp Go.Proofs.Try.prog 125 [.agg (rwE x), .agg (rwE x)] [] (B true) [] false := by
  have := ql x x
  rwa [s3] at this
theorem vw (xs : List Rw) (hl : xs.length ≤ 1000000000) : zp Go.Proofs.Try.prog 36 [rwL xs, rwL xs] [] (B true) [] false := by
  refine zu [4] Go.Proofs.Try.func36 rfl rfl ?_
  simp only [Go.Proofs.Try.ntmps36, List.length_cons, List.length_nil, Nat.reduceAdd, Nat.reduceSub, List.replicate_succ, List.replicate_zero, List.cons_append, List.nil_append]
  repeat' first | refine zM ?_ | refine zC ?_ | refine zR [] ?_ | (refine isA ?_; refine zc rfl ?_) | (refine isL ?_; refine zU rfl (by kernel_rfl) rfl rfl ?_) | (refine zd rfl ?_; refine zT rfl (by kernel_rfl) rfl rfl ?_) | refine zD ?_ | refine zE _ rfl (by kernel_rfl) ?_ | refine zV rfl ?_ | refine zW rfl ?_ | refine zF ?_ | with_reducible refine zL ?_ | refine zJ ?_ | refine zK ?_ | (with_reducible first | refine zO ?_ | refine zP ?_ | refine zG ?_ | refine zI ?_ | refine zH ?_) | refine zQ ?_
  refine zj rfl (fun h => by simp at h) (fun _ => ?_)
  repeat' first | refine zM ?_ | refine zC ?_ | refine zR [] ?_ | (refine isA ?_; refine zc rfl ?_) | (refine isL ?_; refine zU rfl (by kernel_rfl) rfl rfl ?_) | (refine zd rfl ?_; refine zT rfl (by kernel_rfl) rfl rfl ?_) | refine zD ?_ | refine zE _ rfl (by kernel_rfl) ?_ | refine zV rfl ?_ | refine zW rfl ?_ | refine zF ?_ | with_reducible refine zL ?_ | refine zJ ?_ | refine zK ?_ | (with_reducible first | refine zO ?_ | refine zP ?_ | refine zG ?_ | refine zI ?_ | refine zH ?_) | refine zQ ?_
  refine yN (α := { i : Nat // i ≤ xs.length }) (fun i => ⟨[rwL xs, rwL xs, .any, .any, .any, I i.1, .any, .any, .any, .any, .any, .any, .any, .any, .any, .any, .any, .any, .any, .any, .any, .any, .any, .any, .any, .any, .any], [], 0⟩) (fun i => xs.length - i.1) ⟨0, Nat.zero_le _⟩ ?_ ?_
  · exact yv [] rfl rfl (by decide) .nil (by repeat' first | exact zi | refine zf ?_ ?_ | exact zv | exact le_refl rfl | exact zx rfl rfl | exact zy rfl)
  · rintro ⟨i, hi⟩
    repeat' first | refine zM ?_ | refine zC ?_ | refine zR [] ?_ | (refine isA ?_; refine zc rfl ?_) | (refine isL ?_; refine zU rfl (by kernel_rfl) rfl rfl ?_) | (refine zd rfl ?_; refine zT rfl (by kernel_rfl) rfl rfl ?_) | refine zD ?_ | refine zE _ rfl (by kernel_rfl) ?_ | refine zV rfl ?_ | refine zW rfl ?_ | refine zF ?_ | with_reducible refine zL ?_ | refine zJ ?_ | refine zK ?_ | (with_reducible first | refine zO ?_ | refine zP ?_ | refine zG ?_ | refine zI ?_ | refine zH ?_) | refine zQ ?_
    refine zj rfl (fun h => ?_) (fun h => ?_)
    · have hlt : i < xs.length := by simpa using h
      obtain ⟨z, hz⟩ : ∃ z, xs[i]? = some z := ⟨_, List.getElem?_eq_getElem hlt⟩
      repeat' first | refine zM ?_ | refine zC ?_ | refine zR [] ?_ | (refine isA ?_; refine zc rfl ?_) | (refine isL ?_; refine zU rfl (by kernel_rfl) rfl rfl ?_) | (refine zd rfl ?_; refine zT rfl (by kernel_rfl) rfl rfl ?_) | refine zg rfl (yO (z := z) rfl rfl rfl rfl (Int.natCast_nonneg _) hz) rfl ?_ | refine zY rfl (by kernel_rfl) rfl (yO (z := z) rfl rfl rfl rfl (Int.natCast_nonneg _) hz) rfl ?_ | refine zg rfl (zZ rfl (vx _) (.cons (.same rfl) (.cons (.same rfl) .nil)) rfl) rfl ?_ | refine zY rfl (by kernel_rfl) rfl (zZ rfl (vx _) (.cons (.same rfl) (.cons (.same rfl) .nil)) rfl) rfl ?_ | refine zD ?_ | refine zE _ rfl (by kernel_rfl) ?_ | refine zV rfl ?_ | refine zW rfl ?_ | refine zF ?_ | with_reducible refine zL ?_ | refine zJ ?_ | refine zK ?_ | (with_reducible first | refine zO ?_ | refine zP ?_ | refine zG ?_ | refine zI ?_ | refine zH ?_) | refine zQ ?_
      refine ⟨⟨i + 1, hlt⟩, by simp only; omega, ?_⟩
      exact yv [] rfl rfl (by decide) .nil (by repeat' first | exact zi | refine zf ?_ ?_ | exact zv | exact le_refl rfl | exact zx rfl rfl | exact zy rfl | exact xg (by assumption) (by omega))
    · repeat' first | refine zM ?_ | refine zC ?_ | refine zR [] ?_ | (refine isA ?_; refine zc rfl ?_) | (refine isL ?_; refine zU rfl (by kernel_rfl) rfl rfl ?_) | (refine zd rfl ?_; refine zT rfl (by kernel_rfl) rfl rfl ?_) | exact vr rfl rfl rfl | refine zD ?_ | refine zE _ rfl (by kernel_rfl) ?_ | refine zV rfl ?_ | refine zW rfl ?_ | refine zF ?_ | with_reducible refine zL ?_ | refine zJ ?_ | refine zK ?_ | (with_reducible first | refine zO ?_ | refine zP ?_ | refine zG ?_ | refine zI ?_ | refine zH ?_) | refine zQ ?_
theorem wv (xs : List Rw) (hl : xs.length ≤ 1000000000) : zp Go.Proofs.Try.prog 34 [rwL xs] [] (.sl 0 0 xs.length) [yJ rwT 71 xs] true := by
  refine zu [2] Go.Proofs.Try.func34 rfl rfl ?_
  simp only [Go.Proofs.Try.ntmps34, List.length_cons, List.length_nil, Nat.reduceAdd, Nat.reduceSub, List.replicate_succ, List.replicate_zero, List.cons_append, List.nil_append]
  repeat' first | refine zM ?_ | refine zC ?_ | refine zR [] ?_ | (refine isA ?_; refine zc rfl ?_) | (refine isL ?_; refine zU rfl (by kernel_rfl) rfl rfl ?_) | (refine zd rfl ?_; refine zT rfl (by kernel_rfl) rfl rfl ?_) | refine zg rfl (qV rwT z3 rfl rfl rfl hl rfl rfl rfl) rfl ?_ | refine zY rfl (by kernel_rfl) rfl (qV rwT z3 rfl rfl rfl hl rfl rfl rfl) rfl ?_ | refine zD ?_ | refine zE _ rfl (by kernel_rfl) ?_ | refine zV rfl ?_ | refine zW rfl ?_ | refine zF ?_ | with_reducible refine zL ?_ | refine zJ ?_ | refine zK ?_ | (with_reducible first | refine zO ?_ | refine zP ?_ | refine zG ?_ | refine zI ?_ | refine zH ?_) | refine zQ ?_
  refine yN (α := { i : Nat // i ≤ xs.length }) (fun i => ⟨[rwL xs, .any, .any, .sl 0 0 xs.length, I i.1, .any, .any, .any, .any, .any, .any, .any, .any, .any, .any, .any, .any, .any, .any, .any, .any, .any, .any], [yJ rwT 71 (xs.take i.1 ++ List.replicate (xs.length - i.1) z3)], 0⟩) (fun i => xs.length - i.1) ⟨0, Nat.zero_le _⟩ ?_ ?_
  · exact yv [0] rfl rfl (by decide) (.cons rfl rfl rfl rfl (zw (zS _ _)) .nil) (by repeat' first | exact zi | refine zf ?_ ?_ | exact zv | exact le_refl rfl | exact zx rfl rfl | exact zy rfl)
  · rintro ⟨i, hi⟩
    repeat' first | refine zM ?_ | refine zC ?_ | refine zR [] ?_ | (refine isA ?_; refine zc rfl ?_) | (refine isL ?_; refine zU rfl (by kernel_rfl) rfl rfl ?_) | (refine zd rfl ?_; refine zT rfl (by kernel_rfl) rfl rfl ?_) | refine zD ?_ | refine zE _ rfl (by kernel_rfl) ?_ | refine zV rfl ?_ | refine zW rfl ?_ | refine zF ?_ | with_reducible refine zL ?_ | refine zJ ?_ | refine zK ?_ | (with_reducible first | refine zO ?_ | refine zP ?_ | refine zG ?_ | refine zI ?_ | refine zH ?_) | refine zQ ?_
    refine zj rfl (fun h => ?_) (fun h => ?_)
    · have hlt : i < xs.length := by simpa using h
      obtain ⟨z, hz⟩ : ∃ z, xs[i]? = some z := ⟨_, List.getElem?_eq_getElem hlt⟩
      repeat' first | refine zM ?_ | refine zC ?_ | refine zR [] ?_ | (refine isA ?_; refine zc rfl ?_) | (refine isL ?_; refine zU rfl (by kernel_rfl) rfl rfl ?_) | (refine zd rfl ?_; refine zT rfl (by kernel_rfl) rfl rfl ?_) | refine zg rfl (yO (z := z) rfl rfl rfl rfl (Int.natCast_nonneg _) hz) rfl ?_ | refine zY rfl (by kernel_rfl) rfl (yO (z := z) rfl rfl rfl rfl (Int.natCast_nonneg _) hz) rfl ?_ | refine zg rfl (zZ rfl (wL _) (.cons (.same rfl) .nil) rfl) rfl ?_ | refine zY rfl (by kernel_rfl) rfl (zZ rfl (wL _) (.cons (.same rfl) .nil) rfl) rfl ?_ | refine zg rfl (yD rfl rfl rfl (Nat.zero_le _) rfl rfl (Int.natCast_nonneg _) (by simpa using hlt)) rfl ?_ | refine zY rfl (by kernel_rfl) rfl (yD rfl rfl rfl (Nat.zero_le _) rfl rfl (Int.natCast_nonneg _) (by simpa using hlt)) rfl ?_ | refine zg rfl (wn rfl rfl rfl rfl rfl (by simp; omega)) rfl ?_ | refine zY rfl (by kernel_rfl) rfl (wn rfl rfl rfl rfl rfl (by simp; omega)) rfl ?_ | refine zD ?_ | refine zE _ rfl (by kernel_rfl) ?_ | refine zV rfl ?_ | refine zW rfl ?_ | refine zF ?_ | with_reducible refine zL ?_ | refine zJ ?_ | refine zK ?_ | (with_reducible first | refine zO ?_ | refine zP ?_ | refine zG ?_ | refine zI ?_ | refine zH ?_) | refine zQ ?_
      refine ⟨⟨i + 1, hlt⟩, by simp only; omega, ?_⟩
      exact yv [0] rfl rfl (by decide) (.cons rfl rfl rfl rfl (xf (by rw [Nat.zero_add]; exact congrArg rwT.flat (wu (xs := xs) hz rfl)) (zS _ _)) .nil) (by repeat' first | exact zi | refine zf ?_ ?_ | exact zv | exact le_refl rfl | exact zx rfl rfl | exact zy rfl | exact xg (by assumption) (by omega))
    · have hge : i = xs.length := by
        have : ¬ ((i : Int) < xs.length) := by simpa using h
        omega
      subst hge
      repeat' first | refine zM ?_ | refine zC ?_ | refine zR [] ?_ | (refine isA ?_; refine zc rfl ?_) | (refine isL ?_; refine zU rfl (by kernel_rfl) rfl rfl ?_) | (refine zd rfl ?_; refine zT rfl (by kernel_rfl) rfl rfl ?_) | exact nH 0 [0] (fun i hi => absurd hi (Nat.not_lt_zero _)) (by decide) rfl (zx rfl rfl) (.cons rfl rfl rfl rfl (xf (by simp) (zS _ _)) .nil) | refine zD ?_ | refine zE _ rfl (by kernel_rfl) ?_ | refine zV rfl ?_ | refine zW rfl ?_ | refine zF ?_ | with_reducible refine zL ?_ | refine zJ ?_ | refine zK ?_ | (with_reducible first | refine zO ?_ | refine zP ?_ | refine zG ?_ | refine zI ?_ | refine zH ?_) | refine zQ ?_
def kk (k : Int) : Nat → Int
  | 0 => k
  | n + 1 => IntKind.i64.wrap (kk k n + 1)
theorem sV {k : Int} (h0 : 0 ≤ k) (h1 : k ≤ 1000000000000) : ∀ {n : Nat}, n ≤ 1000000000000 → kk k n = k + n
  | 0, _ => by simp [kk]
  | n + 1, hn => by rw [kk, sV h0 h1 (by omega), IntKind.wrap_i64]; omega
theorem ua {α : Type} {g : Nat → α} {xs : List α} {i : Nat} (h : i < xs.length) : ((List.range i).map g ++ xs.drop i).set i (g i) = (List.range (i + 1)).map g ++ xs.drop (i + 1) := by
  rw [List.set_append_right _ _ (by simp), List.length_map, List.length_range, Nat.sub_self, List.drop_eq_getElem_cons h, List.set_cons_zero, List.range_succ, List.map_append, List.append_assoc]
  rfl
def sQ (k : Int) (j : Nat) : Rw := ⟨kk k (3 * j), kk k (3 * j + 1), kk k (3 * j + 2)⟩
def mkC (k : Int) (xs : List Rw) (i : Nat) : List Rw := (List.range i).map (sQ k) ++ xs.drop i
theorem xS (k : Int) {xs : List Rw} {i : Nat} (h : i ≤ xs.length) : (mkC k xs i).length = xs.length := by simp [mkC]; omega
theorem wY (xs : List Rw) (k : Int) (hl : xs.length ≤ 1000000000) : zp Go.Proofs.Try.prog 37 [.sl 0 0 xs.length, I k] [yJ rwT 71 xs] (I (kk k (3 * xs.length))) [yJ rwT 71 (mkC k xs xs.length)] true := by
  refine zu [4] Go.Proofs.Try.func37 rfl rfl ?_
  simp only [Go.Proofs.Try.ntmps37, List.length_cons, List.length_nil, Nat.reduceAdd, Nat.reduceSub, List.replicate_succ, List.replicate_zero, List.cons_append, List.nil_append]
  repeat' first | refine zM ?_ | refine zC ?_ | refine zR [] ?_ | (refine isA ?_; refine zc rfl ?_) | (refine isL ?_; refine zU rfl (by kernel_rfl) rfl rfl ?_) | (refine zd rfl ?_; refine zT rfl (by kernel_rfl) rfl rfl ?_) | refine zD ?_ | refine zE _ rfl (by kernel_rfl) ?_ | refine zV rfl ?_ | refine zW rfl ?_ | refine zF ?_ | with_reducible refine zL ?_ | refine zJ ?_ | refine zK ?_ | (with_reducible first | refine zO ?_ | refine zP ?_ | refine zG ?_ | refine zI ?_ | refine zH ?_) | refine zQ ?_
  refine yN (α := { i : Nat // i ≤ xs.length }) (fun i => ⟨[.sl 0 0 xs.length, I (kk k (3 * i.1)), .any, .any, .any, I i.1, .any, .any, .any, .any, .any, .any, .any, .any, .any, .any, .any, .any, .any, .any, .any, .any, .any, .any, .any, .any, .any, .any, .any, .any, .any, .any, .any, .any], [yJ rwT 71 (mkC k xs i.1)], 1⟩) (fun i => xs.length - i.1) ⟨0, Nat.zero_le _⟩ ?_ ?_
  · exact qN 1 [0] rfl rfl vG (by decide) (.cons rfl rfl rfl rfl (zw (zS _ _)) .nil) (by repeat' first | exact zi | refine zf ?_ ?_ | exact zv | exact le_refl rfl | exact zx rfl rfl | exact zy rfl)
  · rintro ⟨i, hi⟩
    have hgl := xS k hi
    repeat' first | refine zM ?_ | refine zC ?_ | refine zR [] ?_ | (refine isA ?_; refine zc rfl ?_) | (refine isL ?_; refine zU rfl (by kernel_rfl) rfl rfl ?_) | (refine zd rfl ?_; refine zT rfl (by kernel_rfl) rfl rfl ?_) | refine zD ?_ | refine zE _ rfl (by kernel_rfl) ?_ | refine zV rfl ?_ | refine zW rfl ?_ | refine zF ?_ | with_reducible refine zL ?_ | refine zJ ?_ | refine zK ?_ | (with_reducible first | refine zO ?_ | refine zP ?_ | refine zG ?_ | refine zI ?_ | refine zH ?_) | refine zQ ?_
    refine zj rfl (fun h => ?_) (fun h => ?_)
    · have hlt : i < xs.length := by simpa using h
      obtain ⟨z, hz⟩ : ∃ z, (mkC k xs i)[0 + i]? = some z := ⟨_, List.getElem?_eq_getElem (by rw [hgl]; omega)⟩
      have hlt' : 0 + i < (mkC k xs i).length := by rw [hgl]; omega
      have hz1 : ((mkC k xs i).set (0 + i) ⟨kk k (3 * i), z.b, z.c⟩)[0 + i]? = some ⟨kk k (3 * i), z.b, z.c⟩ := List.getElem?_set_self hlt'
      have hz2 : (((mkC k xs i).set (0 + i) ⟨kk k (3 * i), z.b, z.c⟩).set (0 + i) ⟨kk k (3 * i), kk k (3 * i + 1), z.c⟩)[0 + i]? = some ⟨kk k (3 * i), kk k (3 * i + 1), z.c⟩ := List.getElem?_set_self (by rw [List.length_set]; exact hlt')
      repeat' first | refine zM ?_ | refine zC ?_ | refine zR [] ?_ | (refine isA ?_; refine zc rfl ?_) | (refine isL ?_; refine zU rfl (by kernel_rfl) rfl rfl ?_) | (refine zd rfl ?_; refine zT rfl (by kernel_rfl) rfl rfl ?_) | (refine xI ?_; refine zg rfl (yD (j := i) rfl rfl rfl (Nat.zero_le _) rfl rfl (Int.natCast_nonneg i) (by omega)) rfl ?_) | (refine xH rfl ?_; refine zY rfl (by kernel_rfl) rfl (yD (j := i) rfl rfl rfl (Nat.zero_le _) rfl rfl (Int.natCast_nonneg i) (by omega)) rfl ?_) | (refine vh (x := .tmp 16) ?_; refine zg rfl (yl (T := rwT) (i := 0 + i) (off := 0) (z := z) (z' := ⟨kk k (3 * i), z.b, z.c⟩) rfl rfl rfl rfl (by decide) rfl hz rfl) rfl ?_) | (refine wi (x := .tmp 16) rfl ?_; refine zY rfl (by kernel_rfl) rfl (yl (T := rwT) (i := 0 + i) (off := 0) (z := z) (z' := ⟨kk k (3 * i), z.b, z.c⟩) rfl rfl rfl rfl (by decide) rfl hz rfl) rfl ?_) | (refine vh (x := .tmp 23) ?_; refine zg rfl (yl (T := rwT) (i := 0 + i) (off := 1) (z := ⟨kk k (3 * i), z.b, z.c⟩) (z' := ⟨kk k (3 * i), kk k (3 * i + 1), z.c⟩) rfl rfl rfl rfl (by decide) rfl hz1 rfl) rfl ?_) | (refine wi (x := .tmp 23) rfl ?_; refine zY rfl (by kernel_rfl) rfl (yl (T := rwT) (i := 0 + i) (off := 1) (z := ⟨kk k (3 * i), z.b, z.c⟩) (z' := ⟨kk k (3 * i), kk k (3 * i + 1), z.c⟩) rfl rfl rfl rfl (by decide) rfl hz1 rfl) rfl ?_) | (refine vh (x := .tmp 30) ?_; refine zg rfl (yl (T := rwT) (i := 0 + i) (off := 2) (z := ⟨kk k (3 * i), kk k (3 * i + 1), z.c⟩) (z' := sQ k i) rfl rfl rfl rfl (by decide) rfl hz2 rfl) rfl ?_) | (refine wi (x := .tmp 30) rfl ?_; refine zY rfl (by kernel_rfl) rfl (yl (T := rwT) (i := 0 + i) (off := 2) (z := ⟨kk k (3 * i), kk k (3 * i + 1), z.c⟩) (z' := sQ k i) rfl rfl rfl rfl (by decide) rfl hz2 rfl) rfl ?_) | refine zD ?_ | refine zE _ rfl (by kernel_rfl) ?_ | refine zV rfl ?_ | refine zW rfl ?_ | refine zF ?_ | with_reducible refine zL ?_ | refine zJ ?_ | refine zK ?_ | (with_reducible first | refine zO ?_ | refine zP ?_ | refine zG ?_ | refine zI ?_ | refine zH ?_) | refine zQ ?_
      refine ⟨⟨i + 1, hlt⟩, by simp only; omega, ?_⟩
      exact qN 1 [0] rfl rfl vG (by decide) (.cons rfl rfl rfl rfl (xf (by rw [Nat.zero_add]; show rwT.flat (((List.set _ i _).set i _).set i _) = _; rw [List.set_set, List.set_set]; exact congrArg rwT.flat (ua (g := sQ k) hlt)) (zS _ _)) .nil) (by repeat' first | exact zi | refine zf ?_ ?_ | exact zv | exact le_refl rfl | exact zx rfl rfl | exact zy rfl | exact xg (by assumption) (by omega))
    · have hge : i = xs.length := by
        have : ¬ ((i : Int) < xs.length) := by simpa using h
        omega
      subst hge
      repeat' first | refine zM ?_ | refine zC ?_ | refine zR [] ?_ | (refine isA ?_; refine zc rfl ?_) | (refine isL ?_; refine zU rfl (by kernel_rfl) rfl rfl ?_) | (refine zd rfl ?_; refine zT rfl (by kernel_rfl) rfl rfl ?_) | exact nH 1 [0] vG (by decide) rfl (le_refl rfl) (.cons rfl rfl rfl rfl (zw (zS _ _)) .nil) | refine zD ?_ | refine zE _ rfl (by kernel_rfl) ?_ | refine zV rfl ?_ | refine zW rfl ?_ | refine zF ?_ | with_reducible refine zL ?_ | refine zJ ?_ | refine zK ?_ | (with_reducible first | refine zO ?_ | refine zP ?_ | refine zG ?_ | refine zI ?_ | refine zH ?_) | refine zQ ?_
theorem sR {k : Int} {xs : List Rw} : ∀ (i : Nat) (x : Rw), (mkC k xs xs.length)[i]? = some x → x = sQ k i := fun i x h => by
  unfold mkC at h
  rw [List.drop_length, List.append_nil, List.getElem?_map] at h
  cases hi : (List.range xs.length)[i]? with
  | none => rw [hi] at h; cases h
  | some j =>
    rw [hi] at h
    have hj : j = i := by
      obtain ⟨q, e⟩ := List.getElem?_eq_some_iff.1 hi
      simpa using e.symm
    subst hj
    simpa using h.symm
end Go.Proofs.Ytkcicbigpbdjpaa.Ab
namespace Go.Proofs.Ytkcicbigpbdjpaa.Ab
open Go.RowKit
abbrev Rn := List Rw
abbrev rnT : Ty Rn := lsT rwT
abbrev rnL (rs : List Rn) : V := xp rnT rs
abbrev rnN (rs : List Rn) : List Reg := ⟨39, 1, nC 1 rs, 0⟩ :: nR rwT 71 rs
def okRn (rs : List Rn) : Prop := rs.length ≤ 1000000000 ∧ ∀ x ∈ rs, x.length ≤ 1000000000
theorem okRn.at {rs : List Rn} (h : okRn rs) {i : Nat} {x : Rn} (hx : rs[i]? = some x) : x.length ≤ 1000000000 := h.2 x (List.mem_of_getElem? hx)
def szG : List Rn → Int → Int
  | [], l => l
  | x :: xs, l => cond (decide (szL x.length l < 0)) (-1) (szG xs (szL x.length l))
def szR (rs : List Rn) (l : Int) : Int := cond (decide (IntKind.i64.wrap (l - rs.length) < 0)) (-1) (szG rs (IntKind.i64.wrap (l - rs.length)))
def tot (rs : List Rn) : Nat := (rs.map List.length).sum
abbrev nilV : V := .k (.slice none 0 0)
end Go.Proofs.Ytkcicbigpbdjpaa.Ab
namespace Go.Proofs.Ytkcicbigpbdjpaa.Ab
open Go.RowKit
def mkRu : Int → List Rn → List Rn
  | _, [] => []
  | k, x :: xs => mkC k x x.length :: mkRu (kk k (3 * x.length)) xs
def mid (k : Int) (rs : List Rn) (i : Nat) : List Rn := mkRu k (rs.take i) ++ rs.drop i
theorem sW {k : Int} {n : Nat} (h0 : 0 ≤ k) (h1 : k ≤ 1000000000) (hn : n ≤ 1000000000) : decide (kk k n < 0) = false := by
  rw [sV h0 (by omega) (by omega)]
  simp
  omega
end Go.Proofs.Ytkcicbigpbdjpaa.Ab
namespace Go.Proofs.Ytkcicbigpbdjpaa.Ab
open Go.RowKit
def inV (x lo hi : Int) : Bool := decide (lo ≤ x) && decide (x ≤ hi)
def vRw (x : Rw) : Bool := inV x.a 0 9 && (inV x.b 0 99 && inV x.c 0 3)
def avR (xs : List Rw) : Bool := xs.all vRw && decide ((xs.length : Int) ≤ 24)
end Go.Proofs.Ytkcicbigpbdjpaa.Ab
namespace Go.Proofs.Ytkcicbigpbdjpaa.Ab.Gq
open Go.RowKit
structure Gr where
  k : Int
  n : Int
  s : Int
  lo : Int
  hi : Int
def gE (x : Gr) : List V := [I x.k, I x.n, I x.s, I x.lo, I x.hi]
def gT : Ty Gr := ⟨5, gE, fun _ => rfl, by decide, fun r c hc => by
  simp only [gE, List.mem_cons, List.not_mem_nil, or_false] at hc
  rcases hc with rfl | rfl | rfl | rfl | rfl <;> exact ⟨rfl, rfl⟩⟩
abbrev gL (xs : List Gr) : V := xp gT xs
abbrev gR (xs : List Gr) : Reg := yJ gT 95 xs
theorem vF (xs : List Gr) : tG (gT.flat xs) := fun c hc => by
  simp only [Ty.flat, List.mem_flatMap] at hc
  obtain ⟨x, _, hx⟩ := hc
  simp only [gT, gE, List.mem_cons, List.not_mem_nil, or_false] at hx
  rcases hx with rfl | rfl | rfl | rfl | rfl <;> exact ⟨_, rfl⟩
theorem th (xs : List Gr) (k : Nat) : ((gT.flat xs).drop (0 * 5)).take ((k - 0) * 5) = gT.flat (xs.take k) := by
  rw [Nat.zero_mul, List.drop_zero, Nat.sub_zero, show k * 5 = k * gT.n from rfl, yz]
theorem s5 (xs : List Gr) (k : Nat) : ((gT.flat xs).drop (k * 5)).take ((xs.length - k) * 5) = gT.flat (xs.drop k) := by
  rw [show k * 5 = k * gT.n from rfl, xU, show (xs.length - k) * 5 = (xs.length - k) * gT.n from rfl, yz, List.take_of_length_le (by simp)]
theorem va {H : List Reg} {h n : Nat} {xs : List Gr} (hH : H[h]? = some (gR xs)) : Pur true H (.sl h 0 xs.length) (gL xs) := sM hH rfl rfl rfl
def mnV (m n : Int) : Int := if n < m then n else m
def mxV (m n : Int) : Int := if n > m then n else m
def cmb (x y : Gr) : Gr := ⟨x.k, IntKind.i64.wrap (x.n + y.n), IntKind.i64.wrap (x.s + y.s), mnV x.lo y.lo, mxV x.hi y.hi⟩
def yR (x y : Gr) : Gr := cond (decide (x.k = y.k)) (cmb x y) x
theorem tA (x y : Gr) : zp Go.Proofs.Try.prog 99 [.agg (gE x), .agg (gE y)] [] (.agg (gE (yR x y))) [] true := by
  refine yx 4 95 Go.Proofs.Try.func99 rfl rfl ?_
  simp only [Go.Proofs.Try.ntmps99, List.length_cons, List.length_nil, Nat.reduceAdd, Nat.reduceSub, List.replicate_succ, List.replicate_zero, List.cons_append, List.nil_append]
  repeat' first | refine zM ?_ | refine zC ?_ | refine zR [] ?_ | (refine isA ?_; refine zc rfl ?_) | (refine isL ?_; refine zU rfl (by kernel_rfl) rfl rfl ?_) | (refine zd rfl ?_; refine zT rfl (by kernel_rfl) rfl rfl ?_) | refine zD ?_ | refine zE _ rfl (by kernel_rfl) ?_ | refine zV rfl ?_ | refine zW rfl ?_ | refine zF ?_ | with_reducible refine zL ?_ | refine zJ ?_ | refine zK ?_ | (with_reducible first | refine zO ?_ | refine zP ?_ | refine zG ?_ | refine zI ?_ | refine zH ?_) | refine zQ ?_
  refine zj rfl (fun h => ?_) (fun h => ?_)
  · have h1 : decide (x.k = y.k) = false := by simpa using h
    repeat' first | refine zM ?_ | refine zC ?_ | refine zR [] ?_ | (refine isA ?_; refine zc rfl ?_) | (refine isL ?_; refine zU rfl (by kernel_rfl) rfl rfl ?_) | (refine zd rfl ?_; refine zT rfl (by kernel_rfl) rfl rfl ?_) | exact (by rw [yR, h1]; exact uJ (y7 rfl rfl rfl rfl rfl) (.same rfl)) | refine zD ?_ | refine zE _ rfl (by kernel_rfl) ?_ | refine zV rfl ?_ | refine zW rfl ?_ | refine zF ?_ | with_reducible refine zL ?_ | refine zJ ?_ | refine zK ?_ | (with_reducible first | refine zO ?_ | refine zP ?_ | refine zG ?_ | refine zI ?_ | refine zH ?_) | refine zQ ?_
  · have h1 : decide (x.k = y.k) = true := by simpa using h
    repeat' first | refine zM ?_ | refine zC ?_ | refine zR [] ?_ | (refine isA ?_; refine zc rfl ?_) | (refine isL ?_; refine zU rfl (by kernel_rfl) rfl rfl ?_) | (refine zd rfl ?_; refine zT rfl (by kernel_rfl) rfl rfl ?_) | exact (by rw [yR, h1]; exact uJ (y7 rfl rfl rfl rfl rfl) (.same rfl)) | refine zD ?_ | refine zE _ rfl (by kernel_rfl) ?_ | refine zV rfl ?_ | refine zW rfl ?_ | refine zF ?_ | with_reducible refine zL ?_ | refine zJ ?_ | refine zK ?_ | (with_reducible first | refine zO ?_ | refine zP ?_ | refine zG ?_ | refine zI ?_ | refine zH ?_) | refine zQ ?_
theorem u7 (x y : Gr) : zp Go.Proofs.Try.prog 100 [.agg (gE x), .agg (gE y)] [] (.agg (gE (yR x y))) [] true := by
  refine yx 4 95 Go.Proofs.Try.func100 rfl rfl ?_
  simp only [Go.Proofs.Try.ntmps100, List.length_cons, List.length_nil, Nat.reduceAdd, Nat.reduceSub, List.replicate_succ, List.replicate_zero, List.cons_append, List.nil_append]
  repeat' first | refine zM ?_ | refine zC ?_ | refine zR [] ?_ | (refine isA ?_; refine zc rfl ?_) | (refine isL ?_; refine zU rfl (by kernel_rfl) rfl rfl ?_) | (refine zd rfl ?_; refine zT rfl (by kernel_rfl) rfl rfl ?_) | refine zD ?_ | refine zE _ rfl (by kernel_rfl) ?_ | refine zV rfl ?_ | refine zW rfl ?_ | refine zF ?_ | with_reducible refine zL ?_ | refine zJ ?_ | refine zK ?_ | (with_reducible first | refine zO ?_ | refine zP ?_ | refine zG ?_ | refine zI ?_ | refine zH ?_) | refine zQ ?_
  refine zj rfl (fun h => ?_) (fun h => ?_)
  · have h1 : decide (x.k = y.k) = false := by simpa using h
    repeat' first | refine zM ?_ | refine zC ?_ | refine zR [] ?_ | (refine isA ?_; refine zc rfl ?_) | (refine isL ?_; refine zU rfl (by kernel_rfl) rfl rfl ?_) | (refine zd rfl ?_; refine zT rfl (by kernel_rfl) rfl rfl ?_) | exact (by rw [yR, h1]; exact uJ (y7 rfl rfl rfl rfl rfl) (.same rfl)) | refine zD ?_ | refine zE _ rfl (by kernel_rfl) ?_ | refine zV rfl ?_ | refine zW rfl ?_ | refine zF ?_ | with_reducible refine zL ?_ | refine zJ ?_ | refine zK ?_ | (with_reducible first | refine zO ?_ | refine zP ?_ | refine zG ?_ | refine zI ?_ | refine zH ?_) | refine zQ ?_
  · have h1 : decide (x.k = y.k) = true := by simpa using h
    repeat' first | refine zM ?_ | refine zC ?_ | refine zR [] ?_ | (refine isA ?_; refine zc rfl ?_) | (refine isL ?_; refine zU rfl (by kernel_rfl) rfl rfl ?_) | (refine zd rfl ?_; refine zT rfl (by kernel_rfl) rfl rfl ?_) | exact (by rw [yR, h1]; exact uJ (y7 rfl rfl rfl rfl rfl) (.same rfl)) | refine zD ?_ | refine zE _ rfl (by kernel_rfl) ?_ | refine zV rfl ?_ | refine zW rfl ?_ | refine zF ?_ | with_reducible refine zL ?_ | refine zJ ?_ | refine zK ?_ | (with_reducible first | refine zO ?_ | refine zP ?_ | refine zG ?_ | refine zI ?_ | refine zH ?_) | refine zQ ?_
def ofR (x : Rw) : Gr := ⟨x.a, 1, x.b, x.b, x.b⟩
theorem u9 (x : Rw) : zp Go.Proofs.Try.prog 102 [.agg (rwE x)] [] (.agg (gE (ofR x))) [] true := by
  refine yx 2 95 Go.Proofs.Try.func102 rfl rfl ?_
  simp only [Go.Proofs.Try.ntmps102, List.length_cons, List.length_nil, Nat.reduceAdd, Nat.reduceSub, List.replicate_succ, List.replicate_zero, List.cons_append, List.nil_append]
  repeat' first | refine zM ?_ | refine zC ?_ | refine zR [] ?_ | (refine isA ?_; refine zc rfl ?_) | (refine isL ?_; refine zU rfl (by kernel_rfl) rfl rfl ?_) | (refine zd rfl ?_; refine zT rfl (by kernel_rfl) rfl rfl ?_) | exact uJ (y7 rfl rfl rfl rfl rfl) (.same rfl) | refine zD ?_ | refine zE _ rfl (by kernel_rfl) ?_ | refine zV rfl ?_ | refine zW rfl ?_ | refine zF ?_ | with_reducible refine zL ?_ | refine zJ ?_ | refine zK ?_ | (with_reducible first | refine zO ?_ | refine zP ?_ | refine zG ?_ | refine zI ?_ | refine zH ?_) | refine zQ ?_
theorem u6 (x : Rw) : zp Go.Proofs.Try.prog 103 [.agg (rwE x)] [] (.agg (gE (ofR x))) [] true := by
  refine yx 2 95 Go.Proofs.Try.func103 rfl rfl ?_
  simp only [Go.Proofs.Try.ntmps103, List.length_cons, List.length_nil, Nat.reduceAdd, Nat.reduceSub, List.replicate_succ, List.replicate_zero, List.cons_append, List.nil_append]
  repeat' first | refine zM ?_ | refine zC ?_ | refine zR [] ?_ | (refine isA ?_; refine zc rfl ?_) | (refine isL ?_; refine zU rfl (by kernel_rfl) rfl rfl ?_) | (refine zd rfl ?_; refine zT rfl (by kernel_rfl) rfl rfl ?_) | exact uJ (y7 rfl rfl rfl rfl rfl) (.same rfl) | refine zD ?_ | refine zE _ rfl (by kernel_rfl) ?_ | refine zV rfl ?_ | refine zW rfl ?_ | refine zF ?_ | with_reducible refine zL ?_ | refine zJ ?_ | refine zK ?_ | (with_reducible first | refine zO ?_ | refine zP ?_ | refine zG ?_ | refine zI ?_ | refine zH ?_) | refine zQ ?_
end Go.Proofs.Ytkcicbigpbdjpaa.Ab.Gq
namespace Go.Proofs.Ytkcicbigpbdjpaa.Ab
open Go.RowKit
section
variable {P : Program}
def deadR (r : Reg) : Reg := { r with mode := 2 }
end
@[irreducible] def Hold (p : Prop) : Prop := p
theorem nD {p : Prop} (h : p) : Hold p := by unfold Hold; exact h
end Go.Proofs.Ytkcicbigpbdjpaa.Ab
namespace Go.Proofs.Ytkcicbigpbdjpaa.Ab
open Go.RowKit
def enE (p : Int × Nat) : MapEntry := { key := .int .i64 p.1, val := .int .i64 p.2, born := p.2 }
def enM (ks : List Int) : Array MapEntry := (ks.zipIdx.map enE).toArray
structure InvR (r : Nat) (ks : List Int) (C : Cx) (φ : List Hd) (S : St) (a : Act) (w : World) : Prop where
  m : C.φ0.length = S.m
  ex : ∃ A, InvA C A φ S.H w ∧ zN A w φ S.tmps (fun i => a.tmps[i]?) ∧ ¬ A r
  size : a.tmps.size = S.tmps.length
  defers : a.defers = []
  live : ∀ h, ¬ zX φ S.H h r
  blk : w.heap[r]? = some (.map (enM ks) ks.length)
  new : C.w0.heap.size ≤ r
theorem InvR.inv {r : Nat} {ks : List Int} {C : Cx} {φ : List Hd} {S : St} {a : Act} {w : World} (h : InvR r ks C φ S a w) : Inv C φ S a w := by
  obtain ⟨A, h1, h2, _⟩ := h.ex
  exact ⟨h.m, ⟨A, h1, h2⟩, h.size, h.defers⟩
theorem InvR.lt {r : Nat} {ks : List Int} {C : Cx} {φ : List Hd} {S : St} {a : Act} {w : World} (h : InvR r ks C φ S a w) : r < w.heap.size := (Array.getElem?_eq_some_iff.1 h.blk).1
theorem InvR.root {r : Nat} {ks : List Int} {C : Cx} {φ : List Hd} {l : List V} {H : List Reg} {m : Nat} {a : Act} {w : World} (hI : InvR r ks C φ ⟨l, H, m⟩ a w) :
    ∃ C1 : Cx, Inv C1 φ ⟨l, H, H.length⟩ a w ∧ ∀ φ' S' a' w', Inv C1 φ' S' a' w' → InvR r ks C φ' ⟨S'.tmps, S'.H, m⟩ a' w' := by
  have hlt := hI.lt
  obtain ⟨hm, ⟨A, hA, hr, hn⟩, hs, hd, hl, hb, hw⟩ := hI
  simp only at hm hA hr hs hl
  refine ⟨⟨A, w, φ, H⟩, ⟨hA.ok.len, ⟨A, ⟨hA.ok, fun b hb => Or.inl hb, fun h b hl => Or.inr ⟨h, hl⟩, ⟨rfl, rfl, rfl, Nat.le_refl _, fun _ _ _ => rfl⟩, fun _ _ h => h⟩, hr⟩, hs, hd⟩, ?_⟩
  rintro φ' S' a' w' ⟨_, ⟨A', hA', hr'⟩, hs', hd'⟩
  have f := hA'.frame
  refine ⟨hm, ⟨A', ⟨hA'.ok, fun b hb => ?_, fun h b hl => ?_, ⟨f.os.trans hA.frame.os, f.tape.trans hA.frame.tape, f.output.trans hA.frame.output, Nat.le_trans hA.frame.size f.size, fun b hb hno => ?_⟩, fun h hd hh => hA'.pre h hd (hA.pre h hd hh)⟩, hr', fun hA1 => ?_⟩, hs', hd', fun h hl' => ?_, ?_, hw⟩
  · rcases hA'.old b hb with h | h
    · exact hA.old b h
    · exact Or.inr (Nat.le_trans hA.frame.size h)
  · rcases hA'.own h b hl with h1 | ⟨h0, h1⟩
    · exact Or.inl (Nat.le_trans hA.frame.size h1)
    · exact hA.own h0 b h1
  · refine (f.block b (Nat.lt_of_lt_of_le hb hA.frame.size) fun h hl => ?_).trans (hA.frame.block b hb hno)
    rcases hA.own h b hl with h1 | ⟨h0, h1⟩
    · exact absurd hb (Nat.not_lt.2 h1)
    · exact hno h0 h1
  · rcases hA'.old r hA1 with h | h
    · exact hn h
    · exact absurd hlt (Nat.not_lt.2 h)
  · rcases hA'.own h r hl' with h1 | ⟨h0, h1⟩
    · exact absurd hlt (Nat.not_lt.2 h1)
    · exact hl h0 h1
  · exact (f.block r hlt hl).trans hb
def wd (r : Nat) (C : Cx) (Q : Exit → St → List Int → Prop) : Exit → Act → World → Prop := fun e a w => ∃ S φ ks, InvR r ks C φ S a w ∧ Q e S ks
structure AWr (P : Program) (r : Nat) (c : Code) (Q : Exit → St → List Int → Prop) (S : St) (ks : List Int) : Prop where
  out : ∀ C φ a w, InvR r ks C φ S a w → c.wp P (wd r C Q) a w
structure AR (P : Program) (r : Nat) (ops : Array Oper) (l : List Oper) (K : Cx → Exit → Act → World → Prop) (S : St) (ks : List Int) : Prop where
  out : ∀ C φ a w, InvR r ks C φ S a w → wpList P ops (K C) l a w
def tF (K : St → List Int → Prop) (Q : Exit → St → List Int → Prop) : Exit → St → List Int → Prop
  | .normal, S, ks => K S ks
  | e, S, ks => Q e S ks
def wc (id : Nat) (Q : Exit → St → List Int → Prop) : Exit → St → List Int → Prop
  | .exit j, S, ks => if j = id then Q .normal S ks else Q (.exit j) S ks
  | e, S, ks => Q e S ks
section
variable {P : Program} {r : Nat} {Q : Exit → St → List Int → Prop} {S : St} {ks : List Int}
theorem y8 {c : Code} {l : List V} {H : List Reg} {m : Nat} (h : AW P c (fun e S' => Q e ⟨S'.tmps, S'.H, m⟩ ks) ⟨l, H, H.length⟩) : AWr P r c Q ⟨l, H, m⟩ ks := ⟨fun C φ a w hI => by
  obtain ⟨C1, h1, h2⟩ := hI.root
  exact wp_mono (h.out C1 φ a w h1) fun e a' w' ⟨S', φ', k1, k2⟩ => ⟨_, φ', ks, h2 _ _ _ _ k1, k2⟩⟩
theorem qH {id : Nat} (h : Q (.exit id) S ks) : AWr P r (.exit id) Q S ks := ⟨fun C φ a w hI => wp_exit ⟨S, φ, ks, hI, h⟩⟩
theorem qF (h : Q .normal S ks) : AWr P r .skip Q S ks := ⟨fun C φ a w hI => wp_skip ⟨S, φ, ks, hI, h⟩⟩
theorem yZ {x y : Code} (h : AWr P r x (tF (AWr P r y Q) Q) S ks) : AWr P r (.seq x y) Q S ks := ⟨fun C φ a w hI => by
  refine wp_seq (wp_mono (h.out C φ a w hI) ?_)
  rintro e a' w' ⟨S', φ', ks', hI', hq⟩
  cases e with
  | normal => exact hq.out C φ' a' w' hI'
  | exit id => exact ⟨S', φ', ks', hI', hq⟩
  | goto l => exact ⟨S', φ', ks', hI', hq⟩
  | ret => exact ⟨S', φ', ks', hI', hq⟩
  | panic c => exact ⟨S', φ', ks', hI', hq⟩
  | outgrown => exact ⟨S', φ', ks', hI', hq⟩⟩
theorem vy {c : Operand} {x y : Code} {b : Bool} (hc : S.ev c = .k (.bool b)) (ht : b = true → AWr P r x Q S ks) (hf : b = false → AWr P r y Q S ks) : AWr P r (.cond c x y) Q S ks := ⟨fun C φ a w hI => by
  obtain ⟨A, hA, hr, _⟩ := hI.ex
  have h1 := yk hr c
  rw [hc, Rel] at h1
  refine wp_cond h1 ?_
  cases b with
  | true => exact (ht rfl).out C φ a w hI
  | false => exact (hf rfl).out C φ a w hI⟩
theorem ww {id : Nat} {c : Code} (h : AWr P r c (wc id Q) S ks) : AWr P r (.block id c) Q S ks := ⟨fun C φ a w hI => by
  refine wp_block (wp_mono (h.out C φ a w hI) ?_)
  rintro e a' w' ⟨S', φ', ks', hI', hq⟩
  cases e with
  | normal => exact ⟨S', φ', ks', hI', hq⟩
  | exit j =>
    simp only [wc] at hq
    simp only [Exit.inBlock]
    by_cases hj : j = id
    · rw [if_pos hj] at hq ⊢; exact ⟨S', φ', ks', hI', hq⟩
    · rw [if_neg hj] at hq ⊢; exact ⟨S', φ', ks', hI', hq⟩
  | goto l => exact ⟨S', φ', ks', hI', hq⟩
  | ret => exact ⟨S', φ', ks', hI', hq⟩
  | panic c => exact ⟨S', φ', ks', hI', hq⟩
  | outgrown => exact ⟨S', φ', ks', hI', hq⟩⟩
theorem wa {id : Nat} {l : List Oper} (h : AR P r l.toArray l (fun C => wd r C Q) S ks) : AWr P r (.region id l.toArray false) Q S ks := ⟨fun C φ a w hI => wp_region_lit (h.out C φ a w hI)⟩
theorem uO {ops : Array Oper} (h : Q .normal S ks) : AR P r ops [] (fun C => wd r C Q) S ks := ⟨fun C φ a w hI => wpList_nil ⟨S, φ, ks, hI, h⟩⟩
def qM (T S : St) : Prop := T.m = S.m ∧ ∃ ψ : List Nat, (∀ i, i < S.m → ψ[i]? = some i) ∧ HLe ψ T.H S.H ∧ Les ψ T.tmps S.tmps
theorem qM.inv {T S : St} {C : Cx} {φ : List Hd} {a : Act} {w : World} (hs : qM T S) (hI : InvR r ks C φ S a w) : ∃ φ', InvR r ks C φ' T a w := by
  obtain ⟨hm, ψ, hfix, hH, ht⟩ := hs
  obtain ⟨hm0, ⟨A, hA, hr, hn⟩, hs, hd, hl, hb, hw⟩ := hI
  obtain ⟨φ', h1, h2, h3, h4⟩ := hH.ok hA.ok
  refine ⟨φ', hm0.trans hm.symm, ⟨A, ⟨h3, hA.old, fun i b hb => ?_, hA.frame, fun i hd' hi => ?_⟩, Les.rels h2 ht hr, hn⟩, hs.trans (yK ht), hd, fun h hl' => ?_, hb, hw⟩
  · obtain ⟨h, hb'⟩ := h4 i b hb
    exact hA.own h b hb'
  · exact h2 i i (hfix i (by rw [← hm0]; exact (List.getElem?_eq_some_iff.1 hi).1)) hd' (hA.pre i hd' hi)
  · obtain ⟨h', hb'⟩ := h4 h r hl'
    exact hl h' hb'
theorem qG {α : Type} {c : Code} (I : α → St × List Int) (μ : α → Nat) (x : α) (h0 : qM (I x).1 S ∧ (I x).2 = ks)
    (round : ∀ x, AWr P r c (tF (fun S' ks' => ∃ y, μ y < μ x ∧ qM (I y).1 S' ∧ (I y).2 = ks') Q) (I x).1 (I x).2) : AWr P r (.loop c) Q S ks := ⟨fun C φ a w hI => by
  obtain ⟨h0, hks⟩ := h0
  subst hks
  obtain ⟨φ0, hI0⟩ := h0.inv hI
  intro b k cs
  have key : ∀ n x, μ x = n → ∀ φ a w, InvR r (I x).2 C φ (I x).1 a w →
      ∃ e a' w', wd r C Q e a' w' ∧ Arrives P (lone (b.at a (.code c :: .inLoop c :: k)) cs w) b k cs e a' w' := by
    intro n
    induction n using Nat.strongRecOn with
    | _ n ih =>
      intro x hn φ a w hI
      obtain ⟨e, a1, w1, ⟨S1, φ1, ks1, hI1, hq⟩, harr⟩ := (round x).out C φ a w hI b (.inLoop c :: k) cs
      cases e with
      | normal =>
        obtain ⟨y, hlt, hsub, hks⟩ := hq
        subst hks
        obtain ⟨φ2, hI2⟩ := hsub.inv hI1
        obtain ⟨e2, a2, w2, hq2, harr2⟩ := ih (μ y) (hn ▸ hlt) y rfl φ2 a1 w1 hI2
        exact ⟨e2, a2, w2, hq2, .of_steps (Steps.trans harr (.one step_inLoop)) harr2⟩
      | exit id => exact ⟨_, a1, w1, ⟨S1, φ1, ks1, hI1, hq⟩, .pass (x := .inLoop c) rfl (fun _ _ => .inl (by simp)) harr⟩
      | goto l => exact ⟨_, a1, w1, ⟨S1, φ1, ks1, hI1, hq⟩, .pass (x := .inLoop c) rfl (fun _ _ => .inl (by simp)) harr⟩
      | ret => exact ⟨_, a1, w1, ⟨S1, φ1, ks1, hI1, hq⟩, .pass (x := .inLoop c) rfl (fun _ _ => .inl (by simp)) harr⟩
      | panic ch => exact ⟨_, a1, w1, ⟨S1, φ1, ks1, hI1, hq⟩, .pass (x := .inLoop c) rfl (fun _ _ => .inl (by simp)) harr⟩
      | outgrown => exact ⟨_, a1, w1, ⟨S1, φ1, ks1, hI1, hq⟩, .pass (x := .inLoop c) rfl (fun _ _ => .inl (by simp)) harr⟩
  obtain ⟨e, a', w', hq, harr⟩ := key _ x rfl φ0 a w hI0
  exact ⟨e, a', w', hq, .of_steps (.one step_loop) harr⟩⟩
end
theorem tk {T S : St} (ψ : List Nat) (hm : T.m = 0) (hm' : S.m = 0) (hn : ψ.Nodup) (hH : HLes ψ S.H ψ T.H) (ht : Les ψ T.tmps S.tmps) : qM T S := ⟨hm.trans hm'.symm, ψ, fun i hi => by omega, xz hn hH, ht⟩
section
variable {P : Program} {r : Nat} {ops : Array Oper} {K : Cx → Exit → Act → World → Prop} {ks : List Int} {o : Oper} {rest : List Oper} {l l' : List V} {H H' H'' : List Reg} {m : Nat}
theorem ar_R {v : V} (hw : zq ops ⟨l, H, m⟩ o = some true) (hs : zb P o (St.ev ⟨l, H, m⟩) H v H') (hp : xV l H' o.dst v = some (l', H'')) (k : AR P r ops rest K ⟨l', H'', m⟩ ks) : AR P r ops (o :: rest) K ⟨l, H, m⟩ ks := ⟨fun C φ a w hI => by
  refine wpList_step fun K1 hK => ?_
  rw [if_pos (yC hI.inv hw)]
  obtain ⟨C1, h1, h2⟩ := hI.root
  refine hs ⟨l, H, H.length⟩ rfl (fun _ _ => rfl) C1 φ a w h1 K1 _ fun x w' φ' hI' => hK _ _ ?_
  have := h2 _ _ _ _ hI'
  rw [show (⟨((⟨l, H, H.length⟩ : St).put o.dst v H').tmps, ((⟨l, H, H.length⟩ : St).put o.dst v H').H, m⟩ : St) = (⟨l, H, m⟩ : St).put o.dst v H' by cases o.dst <;> rfl, yI hp m] at this
  exact k.out C φ' _ _ this⟩
theorem y3 {T : Tab} [hT : TabC P T] (h : xj T ops o l H = some (l', H')) (k : AR P r ops rest K ⟨l', H', m⟩ ks) (hw : zq ops ⟨l, H, m⟩ o = some true) : AR P r ops (o :: rest) K ⟨l, H, m⟩ ks := by
  unfold xj at h
  split at h
  · rename_i hw
    split at h
    · rename_i v H'' hv
      exact ar_R (by exact hw) (yw (m := m) hT.ok hv) h k
    · cases h
  · rename_i hw'
    rw [show zq ops ⟨l, H, m⟩ o = some false from hw'] at hw
    cases hw
  · cases h
theorem vH (k : Int) : ∀ (ks : List Int) (i : Nat), Instr.findNow (.int .i64) (.int .i64 k) ((ks.zipIdx i).map enE) i = some ((ks.findIdx? (fun x => decide (x = k))).map fun j => (i + j, Value.int .i64 ((i + j : Nat) : Int)))
  | [], i => rfl
  | x :: ks, i => by
    rw [List.zipIdx_cons, List.map_cons, List.findIdx?_cons]
    simp only [Instr.findNow, enE, Instr.sameNow, if_true]
    by_cases h : x = k
    · subst h
      simp
    · have h1 : (k == x) = false := by simp [Ne.symm h]
      have h2 : decide (x = k) = false := by simp [h]
      rw [h1, h2]
      simp only [vH k ks (i + 1)]
      simp [Option.map_map, Function.comp_def, Nat.add_assoc, Nat.add_comm 1]
def x6 (ks : List Int) (k : Int) : List V := match ks.findIdx? (fun x => decide (x = k)) with
  | some j => [.k (.int .i64 j), .k (.bool true)]
  | none => [.k (.int .i64 0), .k (.bool false)]
theorem sH {w : World} {t kt : TypeId} {k : Int} (ht : P.underlying t = some (.map kt kt)) (hk : P.underlying kt = some (.int .i64)) (hz : (zeroValue kt).run P w = .ok (.int .i64 0) w) (hb : w.heap[r]? = some (.map (enM ks) ks.length)) :
    (Instr.lookup t (.map (some r)) (.int .i64 k) true).run P w = .ok (match ks.findIdx? (fun x => decide (x = k)) with
      | some j => .tuple #[.int .i64 j, .bool true]
      | none => .tuple #[.int .i64 0, .bool false]) w := by
  have h1 := vH k ks 0
  simp only [Nat.zero_add] at h1
  have h2 := MapKept.run_findKey (P := P) (w := w) hk (l := (enM ks).toList) (by rw [enM]; exact h1)
  have h3 := MapKept.run_checkKey (P := P) (w := w) (k := .int .i64 k) hk rfl (enM ks).isEmpty 9999
  unfold Instr.lookup
  simp only [Sem.run_bind, run_underlying ht, Result.andThen_ok, MapKept.run_getObj_map hb, Sem.run_pure]
  rw [h3]
  simp only [Result.andThen_ok]
  rw [h2]
  simp only [Result.andThen_ok]
  cases ks.findIdx? (fun x => decide (x = k)) with
  | none => simp [hz, Result.andThen_ok]
  | some j => simp
theorem tD {t kt : TypeId} {x y : Operand} {k : Int} {vs : List V} (hv : x6 ks k = vs) (hw : zq ops ⟨l, H, m⟩ o = some true) (ho : o.op = .lookup t x y true) (hx : St.ev ⟨l, H, m⟩ x = .k (.map (some r))) (hy : St.ev ⟨l, H, m⟩ y = .k (.int .i64 k))
    (ht : P.underlying t = some (.map kt kt)) (hk : P.underlying kt = some (.int .i64)) (hz : ∀ w, (zeroValue kt).run P w = .ok (.int .i64 0) w) (hp : xV l H o.dst (.tup vs) = some (l', H'')) (h : AR P r ops rest K ⟨l', H'', m⟩ ks) : AR P r ops (o :: rest) K ⟨l, H, m⟩ ks := ⟨fun C φ a w hI => by
  subst hv
  refine wpList_step fun K1 hK => ?_
  rw [if_pos (yC hI.inv hw)]
  have hI0 := hI
  obtain ⟨hm, ⟨A, hA, hr, hn⟩, hs, hd, hl, hb, hw'⟩ := hI
  have e1 := yk hr x
  rw [hx, Rel] at e1
  have e2 := yk hr y
  rw [hy, Rel] at e2
  have h1 := sH (P := P) (ks := ks) (r := r) (w := w) (k := k) ht hk (hz w) hb
  obtain ⟨u, hu, hru⟩ : ∃ u, (Instr.lookup t (.map (some r)) (.int .i64 k) true).run P w = .ok u w ∧ Rel A w φ (.tup (x6 ks k)) u := by
    refine ⟨_, h1, ?_⟩
    unfold x6
    cases ks.findIdx? (fun x => decide (x = k)) with
    | none => rw [Rel]; exact ⟨_, rfl, rfl, by simp [zN, Rel]⟩
    | some j => rw [Rel]; exact ⟨_, rfl, rfl, by simp [zN, Rel]⟩
  have h2 : (execOp a.eval o).run P w = .ok (.value u) w := by
    simp only [execOp, ho, e1, e2]
    rw [Sem.run_bind, hu]
    rfl
  unfold Oper.wp
  rw [h2]
  obtain ⟨h3, h4⟩ := y6 (H := H) hs hr hru o.dst
  refine hK _ _ (h.out C φ _ _ ?_)
  rw [← yI hp m]
  have eH : ((⟨l, H, m⟩ : St).put o.dst (.tup (x6 ks k)) H).H = H := by cases o.dst <;> rfl
  exact ⟨by cases o.dst <;> exact hm, ⟨A, by rw [eH]; exact hA, h3, hn⟩, h4, by cases o.dst <;> exact hd, by rw [eH]; exact hl, hb, hw'⟩⟩
theorem qh (ks : List Int) (k : Int) : (enM ks).push { key := .int .i64 k, val := .int .i64 (ks.length : Nat), born := ks.length } = enM (ks ++ [k]) := by
  simp [enM, List.zipIdx_append, enE]
theorem nN {t kt : TypeId} {x y z : Operand} {k : Int} (hw : zq ops ⟨l, H, m⟩ o = some true) (ho : o.op = .mapUpdate t x y z) (hd0 : o.dst = none) (hx : St.ev ⟨l, H, m⟩ x = .k (.map (some r))) (hy : St.ev ⟨l, H, m⟩ y = .k (.int .i64 k)) (hz : St.ev ⟨l, H, m⟩ z = .k (.int .i64 (ks.length : Nat)))
    (ht : P.underlying t = some (.map kt kt)) (hk : P.underlying kt = some (.int .i64)) (hno : ks.findIdx? (fun x => decide (x = k)) = none) (h : AR P r ops rest K ⟨l, H, m⟩ (ks ++ [k])) : AR P r ops (o :: rest) K ⟨l, H, m⟩ ks := ⟨fun C φ a w hI => by
  refine wpList_step fun K1 hK => ?_
  rw [if_pos (yC hI.inv hw)]
  have hlt := hI.lt
  obtain ⟨hm, ⟨A, hA, hr, hn⟩, hs, hd, hl, hb, hw'⟩ := hI
  simp only at hm hA hr hs hl
  have e1 := yk (S := ⟨l, H, m⟩) hr x
  rw [hx, Rel] at e1
  have e2 := yk (S := ⟨l, H, m⟩) hr y
  rw [hy, Rel] at e2
  have e3 := yk (S := ⟨l, H, m⟩) hr z
  rw [hz, Rel] at e3
  have h1 := vH k ks 0
  rw [hno] at h1
  simp only [Option.map_none] at h1
  have h2 := MapKept.run_findKey (P := P) (w := w) hk (l := (enM ks).toList) (by rw [enM]; exact h1)
  have h3 := MapKept.run_checkKey (P := P) (w := w) (k := .int .i64 k) hk rfl false 9999
  have h4 : (execOp a.eval o).run P w = .ok .skip { w with heap := w.heap.setIfInBounds r (.map (enM (ks ++ [k])) (ks.length + 1)) } := by
    simp only [execOp, ho, e1, e2, e3]
    unfold Instr.mapUpdate
    simp only [Sem.run_bind, run_underlying ht, Result.andThen_ok, MapKept.run_getObj_map hb, Sem.run_pure]
    rw [h3]
    simp only [Result.andThen_ok]
    rw [h2]
    simp only [Result.andThen_ok]
    rw [qh, MapKept.run_setObj_map _ hb]
    rfl
  unfold Oper.wp
  rw [h4]
  obtain ⟨g1, g2⟩ := MapKept.heap_set (o' := .map (enM (ks ++ [k])) (ks.length + 1)) hb
  have hAb : ∀ b, A b → A b ∧ (w.heap.setIfInBounds r (.map (enM (ks ++ [k])) (ks.length + 1)))[b]? = w.heap[b]? := fun b hb => ⟨hb, g2 b fun e => hn (e ▸ hb)⟩
  have hmono : ∀ {φ : List Hd} {cs : List V} {g : Nat → Option Value}, zN A w φ cs g → zN A { w with heap := w.heap.setIfInBounds r (.map (enM (ks ++ [k])) (ks.length + 1)) } φ cs g := fun h => zN.mono hAb (fun _ _ h => h) h
  refine hK _ _ (h.out C φ _ _ ?_)
  rw [hd0]
  refine ⟨hm, ⟨A, ⟨⟨hA.ok.len, fun h' hd' rr p1 p2 p3 => ?_, hA.ok.inj, hA.ok.apart, hA.ok.frz, fun b hb => by simpa using hA.ok.low b hb⟩, hA.old, hA.own, ⟨hA.frame.os, hA.frame.tape, hA.frame.output, by simpa using hA.frame.size, fun b hb2 hno => ?_⟩, hA.pre⟩, hmono hr, hn⟩, hs, hd, hl, ?_, hw'⟩
  · obtain ⟨q1, q2⟩ := hA.ok.regs h' hd' rr p1 p2 p3
    refine ⟨q1, ?_⟩
    cases hbk : hd'.blk with
    | none => rw [hbk] at q2; exact q2
    | some b =>
      rw [hbk] at q2
      obtain ⟨c, c1, c2, c3, c4⟩ := q2
      refine ⟨c, ?_, c2, c3, hmono c4⟩
      have hne : b ≠ r := fun e => by
        subst e
        rw [hb] at c1
        cases c1
      exact (g2 b hne).trans c1
  · refine (g2 b fun e => ?_).trans (hA.frame.block b hb2 hno)
    rw [e] at hb2
    exact absurd hb2 (Nat.not_lt.2 hw')
  · rw [show (ks ++ [k]).length = ks.length + 1 by simp]
    exact g1⟩
end
end Go.Proofs.Ytkcicbigpbdjpaa.Ab
namespace Go.Proofs.Ytkcicbigpbdjpaa.Ab
open Go.RowKit
structure AM (P : Program) (ops : Array Oper) (l : List Oper) (K : Nat → St → Prop) (S : St) : Prop where
  out : ∀ C φ a w, Inv C φ S a w → wpList P ops (fun e a' w' => ∃ r, wd r C (fun e S' ks => e = .normal ∧ ks = [] ∧ K r S') e a' w') l a w
section
variable {P : Program} {ops : Array Oper} {K : Nat → St → Prop} {o : Oper} {rest : List Oper} {l l' : List V} {H H' H'' : List Reg} {m : Nat}
theorem am_R {v : V} (hw : zq ops ⟨l, H, m⟩ o = some true) (hs : zb P o (St.ev ⟨l, H, m⟩) H v H') (hp : xV l H' o.dst v = some (l', H'')) (k : AM P ops rest K ⟨l', H'', m⟩) : AM P ops (o :: rest) K ⟨l, H, m⟩ := ⟨fun C φ a w hI => by
  refine wpList_step fun K1 hK => ?_
  rw [if_pos (yC hI hw)]
  refine hs ⟨l, H, m⟩ rfl (fun _ _ => rfl) C φ a w hI K1 _ fun x w' φ' hI' => hK _ _ ?_
  rw [yI hp m] at hI'
  exact k.out C φ' _ _ hI'⟩
theorem am_F {T : Tab} [hT : TabC P T] (h : xj T ops o l H = some (l', H')) (k : AM P ops rest K ⟨l', H', m⟩) (hw : zq ops ⟨l, H, m⟩ o = some true) : AM P ops (o :: rest) K ⟨l, H, m⟩ := by
  unfold xj at h
  split at h
  · rename_i hw
    split at h
    · rename_i v H'' hv
      exact am_R (by exact hw) (yw (m := m) hT.ok hv) h k
    · cases h
  · rename_i hw'
    rw [show zq ops ⟨l, H, m⟩ o = some false from hw'] at hw
    cases hw
  · cases h
theorem am_mk {t : TypeId} {l' : Nat → List V} (hw : zq ops ⟨l, H, m⟩ o = some true) (ho : o.op = .makeMap t none) (hp : ∀ r, xV l H o.dst (.k (.map (some r))) = some (l' r, H)) (h : ∀ r, AR P r ops rest (fun C e a' w' => ∃ r, wd r C (fun e S' ks => e = .normal ∧ ks = [] ∧ K r S') e a' w') ⟨l' r, H, m⟩ []) : AM P ops (o :: rest) K ⟨l, H, m⟩ := ⟨fun C φ a w hI => by
  refine wpList_step fun K1 hK => ?_
  rw [if_pos (yC hI hw)]
  obtain ⟨hm, ⟨A, hA, hr⟩, hs, hd⟩ := hI
  simp only at hm hA hr hs
  have h1 : (execOp a.eval o).run P w = .ok (.value (.map (some w.heap.size))) (w.alloc (.map #[] 0)) := by
    simp only [execOp, ho, Option.map_none]
    rw [Sem.run_bind, run_makeMap]
    rfl
  unfold Oper.wp
  rw [h1]
  obtain ⟨g1, g2⟩ := MapKept.heap_alloc w (.map #[] 0)
  have hAb : ∀ b, A b → A b ∧ (w.alloc (.map #[] 0)).heap[b]? = w.heap[b]? := fun b hb => ⟨hb, g2 b (hA.ok.low b hb)⟩
  have hmono : ∀ {φ : List Hd} {cs : List V} {g : Nat → Option Value}, zN A w φ cs g → zN A (w.alloc (.map #[] 0)) φ cs g := fun h => zN.mono hAb (fun _ _ h => h) h
  have hsz : w.heap.size ≤ (w.alloc (.map #[] 0)).heap.size := by show w.heap.size ≤ (w.heap.push _).size; simp
  have hin : ∀ h b, zX φ H h b → b < w.heap.size := fun h b ⟨hd, r, h1, h2, h3, h4⟩ => by
    obtain ⟨_, e2⟩ := hA.ok.regs h hd r h1 h2 (by omega)
    rw [h4] at e2
    obtain ⟨c, k1, _⟩ := e2
    exact (Array.getElem?_eq_some_iff.1 k1).1
  have hrel : Rel A (w.alloc (.map #[] 0)) φ (.k (.map (some w.heap.size))) (.map (some w.heap.size)) := by rw [Rel]
  obtain ⟨h3, h4⟩ := y6 (S := ⟨l, H, m⟩) (H := H) hs (hmono hr) hrel o.dst
  have eH : ((⟨l, H, m⟩ : St).put o.dst (.k (.map (some w.heap.size))) H).H = H := by cases o.dst <;> rfl
  refine hK _ _ ?_
  refine (h w.heap.size).out C φ (a.put o.dst (.map (some w.heap.size))) (w.alloc (.map #[] 0)) ?_
  rw [← yI (hp w.heap.size) m]
  refine ⟨by cases o.dst <;> exact hm, ⟨A, ?_, h3, fun hA1 => absurd (hA.ok.low _ hA1) (Nat.lt_irrefl _)⟩, h4, by cases o.dst <;> exact hd, fun h hl => ?_, g1, hA.frame.size⟩
  · rw [eH]
    refine ⟨⟨hA.ok.len, fun h' hd' rr p1 p2 p3 => ?_, hA.ok.inj, hA.ok.apart, hA.ok.frz, fun b hb => Nat.lt_of_lt_of_le (hA.ok.low b hb) hsz⟩, hA.old, hA.own, ⟨hA.frame.os, hA.frame.tape, hA.frame.output, Nat.le_trans hA.frame.size hsz, fun b hb hno => (g2 b (Nat.lt_of_lt_of_le hb hA.frame.size)).trans (hA.frame.block b hb hno)⟩, hA.pre⟩
    obtain ⟨q1, q2⟩ := hA.ok.regs h' hd' rr p1 p2 p3
    refine ⟨q1, ?_⟩
    cases hbk : hd'.blk with
    | none => rw [hbk] at q2; exact q2
    | some b =>
      rw [hbk] at q2
      obtain ⟨c, c1, c2, c3, c4⟩ := q2
      exact ⟨c, (g2 b (Array.getElem?_eq_some_iff.1 c1).1).trans c1, c2, c3, hmono c4⟩
  · rw [eH] at hl
    exact absurd (hin h _ hl) (Nat.lt_irrefl _)⟩
theorem qn {r : Nat} {S : St} (h : K r S) : AR P r ops [] (fun C e a' w' => ∃ r, wd r C (fun e S' ks => e = .normal ∧ ks = [] ∧ K r S') e a' w') S [] := ⟨fun C φ a w hI => wpList_nil ⟨r, S, φ, [], hI, rfl, rfl, h⟩⟩
theorem uM {id : Nat} {ls : List Oper} {y : Code} {Q : Exit → St → Prop} {S : St} (h : AM P ls.toArray ls (fun r S' => AWr P r y (fun e S _ => Q e S) S' []) S) : AW P (.seq (.region id ls.toArray false) y) Q S := ⟨fun C φ a w hI => by
  refine wp_seq (wp_mono (wp_region_lit (h.out C φ a w hI)) ?_)
  rintro e a' w' ⟨r, S', φ', ks, hI', rfl, rfl, hk⟩
  exact wp_mono (hk.out C φ' a' w' hI') fun e a w ⟨S, φ, ks, h1, h2⟩ => ⟨S, φ, h1.inv, h2⟩⟩
end
end Go.Proofs.Ytkcicbigpbdjpaa.Ab
namespace Go.Proofs.Ytkcicbigpbdjpaa.Ab.Gq
open Go.RowKit
def isK (k : Int) (x : Gr) : Bool := decide (x.k = k)
def xw (out : List Gr) (g : Gr) : List Gr := match out.findIdx? (isK g.k) with
  | some j => match out[j]? with
    | some x => out.set j (yR x g)
    | none => out
  | none => out ++ [g]
def xL (gs : List Gr) : List Gr := gs.foldl xw []
theorem qL {gs : List Gr} {i : Nat} {z : Gr} (hz : gs[i]? = some z) : xL (gs.take (i + 1)) = xw (xL (gs.take i)) z := by
  rw [List.take_add_one, hz, xL, List.foldl_append]; rfl
theorem qR (out : List Gr) (g : Gr) : (xw out g).length ≤ out.length + 1 := by
  unfold xw
  split
  · split
    · rw [List.length_set]; omega
    · omega
  · simp
theorem tE : ∀ (gs out : List Gr), (gs.foldl xw out).length ≤ out.length + gs.length
  | [], out => Nat.le_refl _
  | g :: gs, out => by
    have h1 := qR out g
    have h2 := tE gs (xw out g)
    rw [List.foldl_cons, List.length_cons]
    omega
theorem qf (out : List Gr) (k : Int) : (out.map (·.k)).findIdx? (fun x => decide (x = k)) = out.findIdx? (isK k) := by
  rw [List.findIdx?_map]; rfl
theorem yL {K : St → List Int → Prop} {Q : Exit → St → List Int → Prop} {S : St} {ks : List Int} (h : K S ks) : tF K Q .normal S ks := h
theorem w8 {K : St → List Int → Prop} {Q : Exit → St → List Int → Prop} {S : St} {ks : List Int} {id : Nat} (h : Q (.exit id) S ks) : tF K Q (.exit id) S ks := h
theorem sJ {Q : Exit → St → List Int → Prop} {S : St} {ks : List Int} {id : Nat} (h : Q .normal S ks) : wc id Q .normal S ks := h
theorem vZ {Q : Exit → St → List Int → Prop} {S : St} {ks : List Int} {id : Nat} (h : Q .normal S ks) : wc id Q (.exit id) S ks := by simp only [wc, if_true]; exact h
theorem uK (x z : Gr) : (yR x z).k = x.k := by unfold yR; cases decide (x.k = z.k) <;> rfl
theorem td (f : List Gr → List Gr) (gs : List Gr) (hl : gs.length ≤ 100000000) (hs : ∀ out : List Gr, out.length ≤ 100000000 → zp Go.Proofs.Try.prog 145 [.sl 0 0 out.length, .k (.func (.func 146) #[] #[])] [gR out] (.tup []) [gR (f out)] true) (hf : ∀ out, (f out).length = out.length) :
    zp Go.Proofs.Try.prog 82 [gL gs] [] (.sl 0 0 (f (xL gs)).length) [gR (f (xL gs))] false := by
  refine zu [2] Go.Proofs.Try.func82 rfl rfl ?_
  simp only [Go.Proofs.Try.ntmps82, List.length_cons, List.length_nil, Nat.reduceAdd, Nat.reduceSub, List.replicate_succ, List.replicate_zero, List.cons_append, List.nil_append]
  refine zM ?_
  refine zC ?_
  refine isA ?_
  refine zc rfl ?_
  refine zD ?_
  refine zL ?_
  refine uM ?_
  refine am_F rfl ?_ rfl
  refine am_mk rfl rfl (fun r => rfl) (fun r => ?_)
  refine y3 rfl ?_ rfl
  refine y3 rfl ?_ rfl
  refine qn ?_
  refine yZ ?_
  refine yZ ?_
  refine y8 ?_
  repeat' first | refine zM ?_ | refine zC ?_ | refine zR [] ?_ | (refine isA ?_; refine zc rfl ?_) | (refine isL ?_; refine zU rfl (by kernel_rfl) rfl rfl ?_) | (refine zd rfl ?_; refine zT rfl (by kernel_rfl) rfl rfl ?_) | refine zD ?_ | refine zE _ rfl (by kernel_rfl) ?_ | refine zV rfl ?_ | refine zW rfl ?_ | refine zF ?_ | with_reducible refine zL ?_ | refine zJ ?_ | refine zK ?_ | (with_reducible first | refine zO ?_ | refine zP ?_ | refine zG ?_ | refine zI ?_ | refine zH ?_) | refine zQ ?_
  refine yL ?_
  refine ww ?_
  have hb : ∀ i, (xL (gs.take i)).length ≤ gs.length := fun i => by
    have h1 := tE (gs.take i) []
    have h2 : (gs.take i).length ≤ gs.length := by rw [List.length_take]; omega
    simp only [List.length_nil] at h1
    unfold xL
    omega
  refine qG (α := { i : Nat // i ≤ gs.length }) (fun i => (⟨[.any, .any, .any, .sl 0 0 (xL (gs.take i.1)).length, .k (.map (some r)), .any, .any, .any, .any, .any, .any, gL gs, I gs.length, I i.1, .any, .any, .any, .any, .any, .any, .any, .any, .any, .any, .any, .any, .any, .any, .any, .any, .any, .any, .any, .any, .any, .any, .any, .any, .any, .any, .any, .any, .any, .any, .any, .any, .any, .any], [gR (xL (gs.take i.1))], 0⟩, (xL (gs.take i.1)).map (·.k))) (fun i => gs.length - i.1) ⟨0, Nat.zero_le _⟩ ?_ ?_
  · exact ⟨tk [0] rfl rfl (by decide) (.cons rfl rfl rfl rfl (yH rfl) .nil) (by repeat' first | exact zi | refine zf ?_ ?_ | exact zv | exact le_refl rfl | exact zx rfl rfl | exact zy rfl), rfl⟩
  · rintro ⟨i, hi⟩
    have hbi := hb i
    have hsn : ∀ z, gs[i]? = some z → xL (gs.take (i + 1)) = xw (xL (gs.take i)) z := fun z hz => qL hz
    have hend : i = gs.length → xL (gs.take i) = xL gs := fun h => by rw [h, List.take_length]
    generalize hG : xL (gs.take i) = out at hbi hsn hend
    refine yZ ?_
    refine y8 ?_
    simp only [hG]
    repeat' first | refine zM ?_ | refine zC ?_ | refine zR [] ?_ | (refine isA ?_; refine zc rfl ?_) | (refine isL ?_; refine zU rfl (by kernel_rfl) rfl rfl ?_) | (refine zd rfl ?_; refine zT rfl (by kernel_rfl) rfl rfl ?_) | refine zD ?_ | refine zE _ rfl (by kernel_rfl) ?_ | refine zV rfl ?_ | refine zW rfl ?_ | refine zF ?_ | with_reducible refine zL ?_ | refine zJ ?_ | refine zK ?_ | (with_reducible first | refine zO ?_ | refine zP ?_ | refine zG ?_ | refine zI ?_ | refine zH ?_) | refine zQ ?_
    refine yL ?_
    refine yZ ?_
    refine vy rfl (fun h => ?_) (fun h => ?_)
    · have hlt : i < gs.length := by simpa using h
      obtain ⟨z, hz⟩ : ∃ z, gs[i]? = some z := ⟨_, List.getElem?_eq_getElem hlt⟩
      have hn := hsn z hz
      refine qF ?_
      refine yL ?_
      refine yZ ?_
      refine ww ?_
      refine yZ ?_
      refine y8 ?_
      repeat' first | refine zM ?_ | refine zC ?_ | refine zR [] ?_ | (refine isA ?_; refine zc rfl ?_) | (refine isL ?_; refine zU rfl (by kernel_rfl) rfl rfl ?_) | (refine zd rfl ?_; refine zT rfl (by kernel_rfl) rfl rfl ?_) | (refine xI ?_; refine zg rfl (yO (t := gT) (z := z) rfl rfl rfl rfl (Int.natCast_nonneg i) hz) rfl ?_) | (refine xH rfl ?_; refine zY rfl (by kernel_rfl) rfl (yO (t := gT) (z := z) rfl rfl rfl rfl (Int.natCast_nonneg i) hz) rfl ?_) | refine zD ?_ | refine zE _ rfl (by kernel_rfl) ?_ | refine zV rfl ?_ | refine zW rfl ?_ | refine zF ?_ | with_reducible refine zL ?_ | refine zJ ?_ | refine zK ?_ | (with_reducible first | refine zO ?_ | refine zP ?_ | refine zG ?_ | refine zI ?_ | refine zH ?_) | refine zQ ?_
      refine yL ?_
      refine yZ ?_
      refine wa ?_
      refine y3 rfl ?_ rfl
      refine y3 rfl ?_ rfl
      refine y3 rfl ?_ rfl
      have hfk := qf out z.k
      unfold xw at hn
      cases hj : out.findIdx? (isK z.k) with
      | some j =>
        rw [hj] at hfk hn
        have hlk : x6 (out.map (·.k)) z.k = [.k (.int .i64 j), .k (.bool true)] := by rw [x6, hfk]
        refine tD hlk rfl rfl rfl rfl (kt := 3) (by kernel_rfl) (by kernel_rfl) Go.Proofs.Try.zeroValue3 rfl ?_
        refine y3 rfl ?_ rfl
        refine y3 rfl ?_ rfl
        refine y3 rfl ?_ rfl
        refine y3 rfl ?_ rfl
        refine y3 rfl ?_ rfl
        refine uO ?_
        refine yL ?_
        obtain ⟨hjl, hjk, _⟩ := List.findIdx?_eq_some_iff_getElem.1 hj
        have hx : out[j]? = some out[j] := List.getElem?_eq_getElem hjl
        generalize out[j] = x at hx hjk
        simp only [hx] at hn
        have hkk : (out.set j (yR x z)).map (·.k) = out.map (·.k) := by
          rw [List.map_set]
          refine List.ext_getElem? fun q => ?_
          rw [List.getElem?_set]
          split
          · rename_i h; subst h
            rw [if_pos (by simpa using hjl), List.getElem?_map, hx]
            rw [Option.map_some, uK]
          · rfl
        refine y8 ?_
        repeat' first | (refine wi rfl ?_; refine pf rfl (by kernel_rfl) rfl (wn (T := gT) (i := j) (xs := out) (z := yR x z) rfl rfl rfl rfl rfl hjl) rfl ?_) | refine zM ?_ | refine zC ?_ | refine zR [9] ?_ | (refine isA ?_; refine zc rfl ?_) | (refine isL ?_; refine zU rfl (by kernel_rfl) rfl rfl ?_) | (refine zd rfl ?_; refine zT rfl (by kernel_rfl) rfl rfl ?_) | (refine xI ?_; refine zg rfl (vl (t := gT) (xs := out) (j := (j : Int)) rfl rfl rfl rfl rfl (Int.natCast_nonneg _) (by omega)) rfl ?_) | (refine xH rfl ?_; refine zY rfl (by kernel_rfl) rfl (vl (t := gT) (xs := out) (j := (j : Int)) rfl rfl rfl rfl rfl (Int.natCast_nonneg _) (by omega)) rfl ?_) | (refine qb (x := .tmp 39) ?_; refine zg rfl (qZ (T := gT) (xs := out) (i := j) (z := x) rfl rfl rfl hx) rfl ?_) | (refine qa (x := .tmp 39) rfl ?_; refine zY rfl (by kernel_rfl) rfl (qZ (T := gT) (xs := out) (i := j) (z := x) rfl rfl rfl hx) rfl ?_) | (refine yf 99 ?_; refine zg rfl (zZ rfl (tA x z) (.cons (.same rfl) (.cons (.same rfl) .nil)) rfl) rfl ?_) | (refine ye 99 rfl ?_; refine zY rfl (by kernel_rfl) rfl (zZ rfl (tA x z) (.cons (.same rfl) (.cons (.same rfl) .nil)) rfl) rfl ?_) | refine zD ?_ | refine zE _ rfl (by kernel_rfl) ?_ | refine zV rfl ?_ | refine zW rfl ?_ | refine zF ?_ | with_reducible refine zL ?_ | refine zJ ?_ | refine zK ?_ | (with_reducible first | refine zO ?_ | refine zP ?_ | refine zG ?_ | refine zI ?_ | refine zH ?_) | refine zQ ?_
        refine sJ ?_
        refine yL ?_
        refine y8 ?_
        repeat' first | refine zM ?_ | refine zC ?_ | refine zR [] ?_ | (refine isA ?_; refine zc rfl ?_) | (refine isL ?_; refine zU rfl (by kernel_rfl) rfl rfl ?_) | (refine zd rfl ?_; refine zT rfl (by kernel_rfl) rfl rfl ?_) | refine zD ?_ | refine zE _ rfl (by kernel_rfl) ?_ | refine zV rfl ?_ | refine zW rfl ?_ | refine zF ?_ | with_reducible refine zL ?_ | refine zJ ?_ | refine zK ?_ | (with_reducible first | refine zO ?_ | refine zP ?_ | refine zG ?_ | refine zI ?_ | refine zH ?_) | refine zQ ?_
        refine yL ?_
        refine ⟨⟨i + 1, hlt⟩, by simp only; omega, ?_, ?_⟩
        · simp only [hn]
          exact tk [0] rfl rfl (by decide) (.cons rfl rfl rfl rfl (zw (zS _ _)) .nil) (by repeat' first | exact zi | refine zf ?_ ?_ | exact zv | exact le_refl rfl | exact zy rfl | exact zx rfl rfl | exact zx rfl (by simp) | exact xg (by omega) (by omega))
        · simp only [hn]
          exact hkk
      | none =>
        rw [hj] at hfk hn
        simp only at hn
        have hlk : x6 (out.map (·.k)) z.k = [.k (.int .i64 0), .k (.bool false)] := by rw [x6, hfk]
        refine tD hlk rfl rfl rfl rfl (kt := 3) (by kernel_rfl) (by kernel_rfl) Go.Proofs.Try.zeroValue3 rfl ?_
        refine y3 rfl ?_ rfl
        refine y3 rfl ?_ rfl
        refine y3 rfl ?_ rfl
        refine y3 rfl ?_ rfl
        refine y3 rfl ?_ rfl
        refine uO ?_
        refine yL ?_
        refine yZ ?_
        refine yZ ?_
        refine y8 ?_
        repeat' first | refine zM ?_ | refine zC ?_ | refine zR [] ?_ | (refine isA ?_; refine zc rfl ?_) | (refine isL ?_; refine zU rfl (by kernel_rfl) rfl rfl ?_) | (refine zd rfl ?_; refine zT rfl (by kernel_rfl) rfl rfl ?_) | refine zD ?_ | refine zE _ rfl (by kernel_rfl) ?_ | refine zV rfl ?_ | refine zW rfl ?_ | refine zF ?_ | with_reducible refine zL ?_ | refine zJ ?_ | refine zK ?_ | (with_reducible first | refine zO ?_ | refine zP ?_ | refine zG ?_ | refine zI ?_ | refine zH ?_) | refine zQ ?_
        refine yL ?_
        refine vy rfl (fun _ => ?_) (fun h => by cases h)
        refine yZ ?_
        refine wa ?_
        refine y3 rfl ?_ rfl
        refine y3 rfl ?_ rfl
        refine y3 rfl ?_ rfl
        refine y3 rfl ?_ rfl
        refine y3 rfl ?_ rfl
        refine nN rfl rfl rfl rfl rfl (by rw [List.length_map]; rfl) (kt := 3) (by kernel_rfl) (by kernel_rfl) hfk ?_
        refine uO ?_
        refine yL ?_
        refine y8 ?_
        repeat' first | (refine isA ?_; refine zg rfl (uE rfl rfl rfl rfl rfl) rfl ?_) | refine zM ?_ | refine zC ?_ | refine zR [] ?_ | (refine isA ?_; refine zc rfl ?_) | (refine isL ?_; refine zU rfl (by kernel_rfl) rfl rfl ?_) | (refine zd rfl ?_; refine zT rfl (by kernel_rfl) rfl rfl ?_) | (refine uH ?_; refine zg rfl (xW (t := gT) (xs := out) (ys := [z]) rfl rfl rfl rfl (.lst _ _) (by simp; omega) rfl) rfl ?_) | (refine uG rfl ?_; refine zY rfl (by kernel_rfl) rfl (xW (t := gT) (xs := out) (ys := [z]) rfl rfl rfl rfl (.lst _ _) (by simp; omega) rfl) rfl ?_) | refine zD ?_ | refine zE _ rfl (by kernel_rfl) ?_ | refine zV rfl ?_ | refine zW rfl ?_ | refine zF ?_ | with_reducible refine zL ?_ | refine zJ ?_ | refine zK ?_ | (with_reducible first | refine zO ?_ | refine zP ?_ | refine zG ?_ | refine zI ?_ | refine zH ?_) | refine zQ ?_
        refine w8 ?_
        refine vZ ?_
        refine yL ?_
        refine y8 ?_
        repeat' first | refine zM ?_ | refine zC ?_ | refine zR [] ?_ | (refine isA ?_; refine zc rfl ?_) | (refine isL ?_; refine zU rfl (by kernel_rfl) rfl rfl ?_) | (refine zd rfl ?_; refine zT rfl (by kernel_rfl) rfl rfl ?_) | refine zD ?_ | refine zE _ rfl (by kernel_rfl) ?_ | refine zV rfl ?_ | refine zW rfl ?_ | refine zF ?_ | with_reducible refine zL ?_ | refine zJ ?_ | refine zK ?_ | (with_reducible first | refine zO ?_ | refine zP ?_ | refine zG ?_ | refine zI ?_ | refine zH ?_) | refine zQ ?_
        refine yL ?_
        refine ⟨⟨i + 1, hlt⟩, by simp only; omega, ?_, ?_⟩
        · simp only [hn]
          exact tk [2] rfl rfl (by decide) (.cons rfl rfl rfl rfl (zw (zS _ _)) .nil) (by repeat' first | exact zi | refine zf ?_ ?_ | exact zv | exact le_refl rfl | exact zy rfl | exact zx rfl rfl | exact zx rfl (by simp) | exact xg (by omega) (by omega))
        · simp only [hn, List.map_append]
          rfl
    · have hge : i = gs.length := by
        have : ¬ ((i : Int) < gs.length) := by simpa using h
        omega
      have hg := hend hge
      have hso := hs out (by omega)
      have hfo := hf out
      rw [← hg]
      refine qH ?_
      refine w8 ?_
      refine w8 ?_
      refine vZ ?_
      refine yL ?_
      refine y8 ?_
      repeat' first | refine zM ?_ | refine zC ?_ | refine zR [] ?_ | (refine isA ?_; refine zc rfl ?_) | (refine isL ?_; refine zU rfl (by kernel_rfl) rfl rfl ?_) | (refine zd rfl ?_; refine zT rfl (by kernel_rfl) rfl rfl ?_) | (refine yf 145 ?_; refine zg rfl (zz (K := []) (Rs' := [_]) [0] (by decide) rfl hso (.cons rfl rfl rfl (zS _ _) (zS _ _) .nil) (.cons (.sl rfl) (.cons (.same rfl) .nil)) (fun q hq => by cases hq) rfl) rfl ?_) | (refine ye 145 rfl ?_; refine zY rfl (by kernel_rfl) rfl (zz (K := []) (Rs' := [_]) [0] (by decide) rfl hso (.cons rfl rfl rfl (zS _ _) (zS _ _) .nil) (.cons (.sl rfl) (.cons (.same rfl) .nil)) (fun q hq => by cases hq) rfl) rfl ?_) | refine zD ?_ | refine zE _ rfl (by kernel_rfl) ?_ | refine zV rfl ?_ | refine zW rfl ?_ | refine zF ?_ | with_reducible refine zL ?_ | refine zJ ?_ | refine zK ?_ | (with_reducible first | refine zO ?_ | refine zP ?_ | refine zG ?_ | refine zI ?_ | refine zH ?_) | refine zQ ?_
      exact qg (ty := gT) rfl rfl rfl rfl hfo.symm rfl (vF _)
end Go.Proofs.Ytkcicbigpbdjpaa.Ab.Gq
namespace Go.Proofs.Ytkcicbigpbdjpaa.Ab.Gq
open Go.RowKit Go.Shelf
def xQ : Go.Shelf.Ren := ⟨fun | 6 => 145 | 15 => 165 | 14 => 164 | 28 => 177 | 29 => 178 | 20 => 169 | 21 => 170 | 22 => 171 | 23 => 172 | 24 => 173 | 25 => 174 | 26 => 175 | 27 => 176 | 46 => 180 | 47 => 181 | 48 => 182 | 49 => 183 | 50 => 184 | 57 => 186 | n => n, fun | 22 => 84 | 24 => 95 | 25 => 144 | 3 => 3 | 39 => 159 | 0 => 0 | 53 => 171 | 55 => 173 | 4 => 4 | 46 => 165 | 45 => 164 | 50 => 141 | 5 => 5 | 9 => 9 | 66 => 174 | 70 => 178 | 76 => 180 | 77 => 181 | n => n, fun | n => n⟩
theorem pJ : Go.Proofs.SlLaysF0.n6 Try.prog xQ := {
  mixed := by kernel_rfl
  f6 := ⟨Try.f145.name, by decide, Try.func145.trans (congrArg some (by kernel_rfl))⟩
  f14 := ⟨Try.f164.name, by decide, Try.func164.trans (congrArg some (by kernel_rfl))⟩
  f15 := Try.func165.trans (congrArg some (by kernel_rfl))
  f20 := ⟨Try.f169.name, by decide, Try.func169.trans (congrArg some (by kernel_rfl))⟩
  f21 := ⟨Try.f170.name, by decide, Try.func170.trans (congrArg some (by kernel_rfl))⟩
  f22 := ⟨Try.f171.name, by decide, Try.func171.trans (congrArg some (by kernel_rfl))⟩
  f23 := ⟨Try.f172.name, by decide, Try.func172.trans (congrArg some (by kernel_rfl))⟩
  f24 := ⟨Try.f173.name, by decide, Try.func173.trans (congrArg some (by kernel_rfl))⟩
  f25 := ⟨Try.f174.name, by decide, Try.func174.trans (congrArg some (by kernel_rfl))⟩
  f26 := ⟨Try.f175.name, by decide, Try.func175.trans (congrArg some (by kernel_rfl))⟩
  f27 := ⟨Try.f176.name, by decide, Try.func176.trans (congrArg some (by kernel_rfl))⟩
  f28 := Try.func177.trans (congrArg some (by kernel_rfl))
  f29 := Try.func178.trans (congrArg some (by kernel_rfl))
  f46 := ⟨Try.f180.name, by decide, Try.func180.trans (congrArg some (by kernel_rfl))⟩
  f47 := Try.func181.trans (congrArg some (by kernel_rfl))
  f48 := Try.func182.trans (congrArg some (by kernel_rfl))
  f49 := ⟨Try.f183.name, by decide, Try.func183.trans (congrArg some (by kernel_rfl))⟩
  f50 := ⟨Try.f184.name, by decide, Try.func184.trans (congrArg some (by kernel_rfl))⟩
  f57 := ⟨Try.f186.name, by decide, Try.func186.trans (congrArg some (by kernel_rfl))⟩
  t0 := Try.underlying0
  a0 := Try.isAgg0
  z0 := Try.sizeOf0
  v0 := Try.zeroValue0
  t3 := Try.underlying3
  a3 := Try.isAgg3
  z3 := Try.sizeOf3
  v3 := Try.zeroValue3
  t4 := Try.underlying4
  a4 := Try.isAgg4
  z4 := Try.sizeOf4
  v4 := Try.zeroValue4
  t5 := Try.underlying5
  a5 := Try.isAgg5
  z5 := Try.sizeOf5
  v5 := Try.zeroValue5
  t9 := Try.underlying9
  a9 := Try.isAgg9
  z9 := Try.sizeOf9
  v9 := Try.zeroValue9
  t22 := Try.underlying84
  a22 := Try.isAgg84
  z22 := Try.sizeOf84
  v22 := Try.zeroValue84
  t25 := Try.underlying144
  a25 := Try.isAgg144
  z25 := Try.sizeOf144
  v25 := Try.zeroValue144
  t39 := Try.underlying159
  a39 := Try.isAgg159
  z39 := Try.sizeOf159
  v39 := Try.zeroValue159
  t45 := Try.underlying164
  a45 := Try.isAgg164
  z45 := Try.sizeOf164
  v45 := Try.zeroValue164
  t46 := Try.underlying165
  a46 := Try.isAgg165
  z46 := Try.sizeOf165
  v46 := Try.zeroValue165
  t50 := Try.underlying141
  a50 := Try.isAgg141
  z50 := Try.sizeOf141
  v50 := Try.zeroValue141
  t53 := Try.underlying171
  a53 := Try.isAgg171
  z53 := Try.sizeOf171
  v53 := Try.zeroValue171
  t55 := Try.underlying173
  a55 := Try.isAgg173
  z55 := Try.sizeOf173
  v55 := Try.zeroValue173
  t66 := Try.underlying174
  a66 := Try.isAgg174
  z66 := Try.sizeOf174
  v66 := Try.zeroValue174
  t70 := Try.underlying178
  a70 := Try.isAgg178
  z70 := Try.sizeOf178
  v70 := Try.zeroValue178
  t76 := Try.underlying180
  a76 := Try.isAgg180
  z76 := Try.sizeOf180
  v76 := Try.zeroValue180
  t77 := Try.underlying181
  a77 := Try.isAgg181
  z77 := Try.sizeOf181
  v77 := Try.zeroValue181 }
end Go.Proofs.Ytkcicbigpbdjpaa.Ab.Gq
namespace Go.Proofs.Ytkcicbigpbdjpaa.Ab
open Go.RowKit
def sO (a b : Int) : Int := cond (decide (a < b)) (-1) (cond (decide (b < a)) 1 0)
def cmpL : List Int → List Int → Int
  | x :: xs, y :: ys => cond (decide (x < y)) (-1) (cond (decide (y < x)) 1 (cmpL xs ys))
  | _, _ => 0
def rwN (x : Rw) : List Int := [x.a, x.b, x.c]
def cmpV (x y : Rw) : Int := cmpL (rwN x) (rwN y)
def intT : Ty Int := ⟨1, fun n => [I n], fun _ => rfl, by decide, fun r c hc => by
  simp only [List.mem_cons, List.not_mem_nil, or_false] at hc
  subst hc
  exact ⟨rfl, rfl⟩⟩
def mgV : List Rw → List Rw → List Rw
  | [], ys => ys
  | x :: xs, [] => x :: xs
  | x :: xs, y :: ys => cond (decide (cmpV x y ≤ 0)) (x :: mgV xs (y :: ys)) (y :: mgV (x :: xs) ys)
termination_by xs ys => xs.length + ys.length
theorem th (xs : List Rw) (k : Nat) : ((rwT.flat xs).drop (0 * 3)).take ((k - 0) * 3) = rwT.flat (xs.take k) := by
  rw [Nat.zero_mul, List.drop_zero, Nat.sub_zero, show k * 3 = k * rwT.n from rfl, yz]
theorem s5 (xs : List Rw) (k : Nat) : ((rwT.flat xs).drop (k * 3)).take ((xs.length - k) * 3) = rwT.flat (xs.drop k) := by
  rw [show k * 3 = k * rwT.n from rfl, xU, show (xs.length - k) * 3 = (xs.length - k) * rwT.n from rfl, yz, List.take_of_length_le (by simp)]
end Go.Proofs.Ytkcicbigpbdjpaa.Ab
namespace Go.Proofs.Ytkcicbigpbdjpaa.Ab.Gq
open Go.RowKit Go.Shelf Go.Lib Go.Sort
theorem tV (a b : Int) (W : World) : Calls Go.Proofs.Try.prog 147 #[.int .i64 a, .int .i64 b] W fun e w' => e = .returned (.int .i64 (sO a b)) ∧ w' = W := by
  unfold sO
  by_cases h1 : a < b
  · simp only [h1, decide_true, cond_true]
    go_enter Go.Proofs.Try.func147, Go.Proofs.Try.ntmps147
    go_wp2
    go_ret
    exact ⟨rfl, rfl⟩
  · simp only [h1, decide_false, cond_false]
    by_cases h2 : b < a
    · simp only [h2, decide_true, cond_true]
      go_enter Go.Proofs.Try.func147, Go.Proofs.Try.ntmps147
      go_wp2
      go_ret
      exact ⟨rfl, rfl⟩
    · simp only [h2, decide_false, cond_false]
      go_enter Go.Proofs.Try.func147, Go.Proofs.Try.ntmps147
      go_wp2
      go_ret
      exact ⟨rfl, rfl⟩
def yq (x : Gr) : List Value := [.int .i64 x.k, .int .i64 x.n, .int .i64 x.s, .int .i64 x.lo, .int .i64 x.hi]
def cfG (x y : Gr) : Int := sO x.k y.k
theorem tc (x y : Gr) (W : World) : Calls Go.Proofs.Try.prog 146 #[.agg (yq x).toArray, .agg (yq y).toArray] W fun e w' => e = .returned (.int .i64 (cfG x y)) ∧ ∃ q os', w' = grow (W.drewN q) os' := by
  have hcon := fun W' => tV x.k y.k W'
  unfold cfG
  unfold yq
  generalize sO x.k y.k = r at hcon ⊢
  go_enter Go.Proofs.Try.func146, Go.Proofs.Try.ntmps146
  go_wp2_with (go_at_call 147; refine (hcon _).mono ?_; rintro e w' ⟨rfl, rfl⟩)
  go_ret
  exact ⟨rfl, 0, _, by rw [alloc_eq_grow, alloc_eq_grow, grow_grow]; rfl⟩
instance : Inhabited Gr := ⟨⟨0, 0, 0, 0, 0⟩⟩
theorem s7 (blk off size : Nat) (w : World) : CmpLays Go.Proofs.Try.prog 146 #[] yq 5 cfG blk off size w := fun _ _ _ _ x y => tc x y _
theorem ub (x y : Gr) : ltOf cfG x y = decide (x.k < y.k) := by
  unfold ltOf cfG sO
  by_cases h1 : x.k < y.k
  · simp [h1]
  · by_cases h2 : y.k < x.k <;> simp [h1, h2]
theorem tj : SWO (ltOf cfG) where
  irrefl x := by rw [ub]; simp
  trans x y z h1 h2 := by rw [ub] at *; simp at *; omega
  ntrans x y z h1 h2 := by rw [ub] at *; simp at *; omega
def wS (xs : List Gr) : Array Gr := pdq (ltOf cfG) xs.toArray 0 xs.toArray.size (Lib.bitLen xs.toArray.size) true true
def y5 (xs : List Gr) : List Gr := (wS xs).toList
theorem sC (xs : List Gr) : PermIn 0 xs.toArray.size xs.toArray (wS xs) ∧ SortedIn (ltOf cfG) 0 xs.toArray.size (wS xs) := pdq_sorts (ltOf cfG) tj xs.toArray 0 xs.toArray.size (Lib.bitLen xs.toArray.size) true true (Nat.zero_le _) (Nat.le_refl _) (Or.inl rfl)
theorem nB : ∀ w, (isAgg (xQ.t 24)).run Go.Proofs.Try.prog w = .ok true w := Go.Proofs.Try.isAgg95
theorem sizeG : ∀ w, (Go.sizeOf (xQ.t 24)).run Go.Proofs.Try.prog w = .ok 5 w := Go.Proofs.Try.sizeOf95
theorem qT (x : Gr) : ∀ v ∈ yq x, v.oneCell' = true := fun v hv => by
  simp only [yq, List.mem_cons, List.not_mem_nil, or_false] at hv
  rcases hv with rfl | rfl | rfl | rfl | rfl <;> rfl
theorem uB (blk cap : Nat) (d : Array Gr) (w : World) (hH : HoldsK yq 5 w blk 0 d) (hblk : blk < w.heap.size) (hsz : d.size < 4611686018427387904) :
    Calls Go.Proofs.Try.prog 145 #[.slice (some ⟨blk, 0, none⟩) d.size cap, .func (.func 146) #[] #[]] w fun e w' => e = .returned (.tuple #[]) ∧ ∃ n os, w' = sortWorldK yq 5 w blk 0 n (wS d.toList) os := by
  have eg : ∀ args w, (callFunc 146 args).run Go.Proofs.Try.prog w = .ok (.enter 146 args) w := enters_of Go.Proofs.Try.func146 (by kernel_rfl) rfl
  exact AnyQ.slices_SortFunc_eq pJ 5 nB sizeG yq (fun _ => rfl) qT cfG tj 146 #[] blk 0 cap d w eg (s7 blk 0 d.size w) hH hblk hsz
theorem s4 (xs : List Gr) (j : Nat) (hj : j < xs.length * 5) : (gT.flat xs)[j]? = some (.k ((flatK yq 5 xs.toArray)[j]!)) := by
  have hlt : j / 5 < xs.length := by omega
  have hz : xs[j / 5]? = some xs[j / 5] := List.getElem?_eq_getElem hlt
  rw [get_flatK yq 5 xs.toArray j (by simpa using hj), show xs.toArray[j / 5]! = xs[j / 5] by simp [hlt]]
  generalize xs[j / 5] = x at hz
  have key : (gT.enc x)[j % 5]? = some (.k ((yq x)[j % 5]!)) := by
    have h5 : j % 5 < 5 := Nat.mod_lt _ (by decide)
    match j % 5, h5 with
    | 0, _ => rfl
    | 1, _ => rfl
    | 2, _ => rfl
    | 3, _ => rfl
    | 4, _ => rfl
  have := vp gT hz key
  rwa [show j / 5 * gT.n + j % 5 = j by show j / 5 * 5 + j % 5 = j; omega] at this
theorem wD (xs : List Gr) : (y5 xs).length = xs.length := by
  have h := (sC xs).1.1
  rw [y5, Array.length_toList, h]
  simp
theorem qi (xs : List Gr) (hl : xs.length ≤ 100000000) (hne : xs ≠ []) : zp Go.Proofs.Try.prog 145 [.sl 0 0 xs.length, .k (.func (.func 146) #[] #[])] [gR xs] (.tup []) [gR (y5 xs)] true := by
  intro A φ w args hok hrel hsz
  have hpos : 0 < xs.length := List.length_pos_iff.2 hne
  have hfl : (gT.flat xs).length = xs.length * 5 := zn _ _
  obtain ⟨hd, hφ⟩ : ∃ hd, φ[0]? = some hd := ⟨φ[0]'(by rw [hok.len]; exact Nat.one_pos), List.getElem?_eq_getElem _⟩
  obtain ⟨⟨q1, q2, q3⟩, q4⟩ := hok.regs 0 hd (gR xs) hφ rfl (Nat.zero_le _)
  change hd.esz = 5 at q1
  change hd.e = _ at q2
  obtain ⟨b, hb⟩ : ∃ b, hd.blk = some b := by
    cases h : hd.blk with
    | some b => exact ⟨b, rfl⟩
    | none =>
      rw [h] at q4
      have : (gT.flat xs).length = 0 := by rw [show gT.flat xs = [] from q4.1]; rfl
      omega
  rw [hb] at q4
  obtain ⟨c, c1, c2, c3, c4⟩ := q4
  change (gT.flat xs).length ≤ c.size at c3
  obtain ⟨a0, h0, r0⟩ := zo hrel (i := 0) (c := .sl 0 0 xs.length) rfl
  obtain ⟨a1, h1, r1⟩ := zo hrel (i := 1) (c := .k (.func (.func 146) #[] #[])) rfl
  simp only [Rel] at r0 r1
  obtain ⟨hd', hφ', hx⟩ := r0
  rw [hφ] at hφ'
  cases hφ'
  have hx : a0 = .slice (some ⟨b, 0, none⟩) xs.length (hd.cap - 0) := by
    rcases hx with hx | hx
    · rw [hx.1, hb, Option.map_some, Nat.zero_mul]
    · omega
  subst hx r1
  have hargs : args = #[.slice (some ⟨b, 0, none⟩) xs.toArray.size (hd.cap - 0), .func (.func 146) #[] #[]] := by
    apply Array.ext (by rw [hsz]; rfl)
    intro i hi hi2
    have h2 : i < 2 := by rw [hsz] at hi; exact hi
    match i, h2 with
    | 0, _ => exact (Array.getElem?_eq_some_iff.1 h0).2
    | 1, _ => exact (Array.getElem?_eq_some_iff.1 h1).2
  subst hargs
  have hblk : b < w.heap.size := (Array.getElem?_eq_some_iff.1 c1).1
  have hH : HoldsK yq 5 w b 0 xs.toArray := fun j hj => by
    have hj' : j < xs.length * 5 := by simpa using hj
    obtain ⟨y, y1, y2⟩ := zo c4 (s4 xs j hj')
    rw [Rel] at y2
    subst y2
    rw [Nat.zero_add]
    refine ⟨?_, ?_⟩
    · simp only [World.cell?, c1]
      exact y1
    · simp only [World.frozen?, c1]
      simp
  refine (uB b (hd.cap - 0) xs.toArray w hH hblk (by simp; omega)).mono ?_
  rintro e w' ⟨rfl, n, os, rfl⟩
  have hys : (wS xs.toArray.toList) = (y5 xs).toArray := by simp [y5]
  rw [hys]
  have hlen := wD xs
  generalize y5 xs = ys at hlen
  have hw : (sortWorldK yq 5 w b 0 n ys.toArray os).heap = w.heap.modify b (onCells (putCells id 0 (flatK yq 5 ys.toArray))) ++ os := rfl
  have hin : ∀ b', b' < w.heap.size → (sortWorldK yq 5 w b 0 n ys.toArray os).heap[b']? = (w.heap.modify b (onCells (putCells id 0 (flatK yq 5 ys.toArray))))[b']? := fun b' hb' => by
    rw [hw, Array.getElem?_append_left (by simpa using hb')]
  have hoth : ∀ b', b' < w.heap.size → b' ≠ b → (sortWorldK yq 5 w b 0 n ys.toArray os).heap[b']? = w.heap[b']? := fun b' hb' hne' => by
    rw [hin b' hb', Array.getElem?_modify, if_neg (Ne.symm hne')]
  have hlv : zX φ [gR xs] 0 b := ⟨hd, gR xs, hφ, rfl, rfl, hb⟩
  have hAb : ∀ b', A b' → A b' ∧ (sortWorldK yq 5 w b 0 n ys.toArray os).heap[b']? = w.heap[b']? := fun b' hb' => ⟨hb', hoth b' (hok.low b' hb') fun e => hok.apart 0 b hlv (e ▸ hb')⟩
  have hnew : (sortWorldK yq 5 w b 0 n ys.toArray os).heap[b]? = some (.cells (putCells id 0 (flatK yq 5 ys.toArray) c) hd.e (0, 0)) := by
    rw [hin b hblk, Array.getElem?_modify, if_pos rfl, c1]
    rfl
  have hlive : ∀ (zs : List Gr) h b', zX φ [gR zs] h b' → h = 0 ∧ b' = b := fun zs h b' ⟨hd', r, l1, l2, l3, l4⟩ => by
    have hh : h < 1 := (List.getElem?_eq_some_iff.1 l2).1
    obtain rfl : h = 0 := by omega
    rw [hφ] at l1
    cases l1
    rw [hb] at l4
    exact ⟨rfl, (Option.some.inj l4).symm⟩
  refine ⟨.tuple #[], φ, A, rfl, ⟨hok.len, fun h hd' r p1 p2 p3 => ?_, fun h h' b' l1 l2 => ?_, fun h b' l1 => ?_, fun h hd' r b' p1 p2 p3 p4 => ?_, fun b' hb' => ?_⟩, ?_, fun b' hb' => Or.inl ⟨rfl, hb'⟩, fun h b' l1 => ?_, ⟨rfl, rfl, rfl, ?_, fun b' hb' hno => ?_⟩, fun _ _ h => h⟩
  · have hh : h < 1 := (List.getElem?_eq_some_iff.1 p2).1
    obtain rfl : h = 0 := by omega
    rw [hφ] at p1
    cases p1
    cases p2
    refine ⟨⟨q1, q2, q3⟩, ?_⟩
    rw [hb]
    refine ⟨_, hnew, by simpa [putCells] using c2, ?_, ?_⟩
    · show (gT.flat ys).length ≤ _
      rw [zn]
      have : (putCells id 0 (flatK yq 5 ys.toArray) c).size = c.size := by simp [putCells]
      rw [this, hlen]
      exact hfl ▸ c3
    · refine zh.2 fun i v hv => ?_
      have hi : i < ys.length * 5 := by
        have := (List.getElem?_eq_some_iff.1 hv).1
        rwa [show (gR ys).cells = gT.flat ys from rfl, zn] at this
      have e1 := s4 ys i hi
      rw [show (gR ys).cells = gT.flat ys from rfl, e1] at hv
      cases hv
      refine ⟨_, ?_, by rw [Rel]⟩
      have hic : i < c.size := by rw [hlen] at hi; rw [hfl] at c3; omega
      simp only [putCells, Array.getElem?_mapIdx, Array.getElem?_eq_getElem hic, Option.map_some]
      rw [if_pos ⟨Nat.zero_le _, by simpa using hi⟩]
      simp
  · exact (hlive ys h b' l1).1.trans (hlive ys h' b' l2).1.symm
  · obtain ⟨rfl, rfl⟩ := hlive ys h b' l1
    exact hok.apart 0 _ hlv
  · have hh : h < 1 := (List.getElem?_eq_some_iff.1 p2).1
    obtain rfl : h = 0 := by omega
    cases p2
    cases p3
  · rw [hw]
    have := hok.low b' hb'
    simp
    omega
  · rw [Rel]
    exact ⟨#[], rfl, rfl, by rw [zN]; trivial⟩
  · obtain ⟨rfl, rfl⟩ := hlive ys h b' l1
    exact Or.inr ⟨0, hlv⟩
  · rw [hw]
    simp
  · exact hoth b' hb' fun e => hno 0 (e ▸ hlv)
end Go.Proofs.Ytkcicbigpbdjpaa.Ab.Gq
namespace Go.Proofs.Ytkcicbigpbdjpaa.Ab.Gq
open Go.RowKit Go.Shelf Go.Lib Go.Sort
theorem qC : zp Go.Proofs.Try.prog 165 [.k (.int .u64 0)] [] (I 0) [] true := by
  intro A φ w xs hok hrel hsz
  obtain ⟨a0, h0, r0⟩ := zo hrel (i := 0) (c := .k (.int .u64 0)) rfl
  simp only [Rel] at r0
  subst r0
  have hargs : xs = #[.int .u64 0] := by
    apply Array.ext (by rw [hsz]; rfl)
    intro i hi hi2
    have h2 : i < 1 := by rw [hsz] at hi; exact hi
    obtain rfl : i = 0 := by omega
    exact (Array.getElem?_eq_some_iff.1 h0).2
  subst hargs
  have L := pJ
  refine (Any.bits_Len (SlLaysF0.n15.bits (P := Go.Proofs.Try.prog) (ρ := xQ) { L with }) 0 w (by omega) (by omega)).mono ?_
  rintro e w' ⟨rfl, rfl⟩
  exact ⟨_, φ, A, rfl, hok, by rw [Rel]; rfl, fun b hb => Or.inl ⟨rfl, hb⟩, fun h b hl => Or.inr ⟨h, hl⟩, ⟨rfl, rfl, rfl, Nat.le_refl _, fun _ _ _ => rfl⟩, fun _ _ h => h⟩
theorem sZ {l : List V} {H : List Reg} {K : List Reg} (k : Nat) (ψ : List Nat) (hfix : ∀ i, i < k → ψ[i]? = some i) (hnd : ψ.Nodup) (hH : HLes ψ H ψ K) : (Exit.normal = .ret ∨ Exit.normal = .normal) ∧ Out true (.tup []) K (wC ⟨l, H, k⟩ []) ⟨l, H, k⟩ :=
  ⟨Or.inr rfl, wT (S := ⟨l, H, k⟩) ψ hfix (xz hnd hH) (sU zi) (Or.inl rfl)⟩
theorem nG {l : List V} {H : List Reg} {K : List Reg} (k : Nat) (ψ : List Nat) (hfix : ∀ i, i < k → ψ[i]? = some i) (hnd : ψ.Nodup) (hH : HLes ψ H ψ K) : (Exit.ret = .ret ∨ Exit.ret = .normal) ∧ Out true (.tup []) K (wC ⟨l, H, k⟩ []) ⟨l, H, k⟩ :=
  ⟨Or.inl rfl, wT (S := ⟨l, H, k⟩) ψ hfix (xz hnd hH) (sU zi) (Or.inl rfl)⟩
abbrev fnG : V := .k (.func (.func 146) #[] #[])
theorem qD : zp Go.Proofs.Try.prog 169 [.sl 0 0 0, I 0, I 0, fnG] [gR []] (.tup []) [gR []] true := by
  refine zu [] Go.Proofs.Try.func169 rfl rfl ?_
  simp only [Go.Proofs.Try.ntmps169, List.length_cons, List.length_nil, Nat.reduceAdd, Nat.reduceSub, List.replicate_succ, List.replicate_zero, List.cons_append, List.nil_append]
  repeat' first | refine zM ?_ | refine zC ?_ | refine zR [] ?_ | (refine isA ?_; refine zc rfl ?_) | (refine isL ?_; refine zU rfl (by kernel_rfl) rfl rfl ?_) | (refine zd rfl ?_; refine zT rfl (by kernel_rfl) rfl rfl ?_) | refine zD ?_ | refine zE _ rfl (by kernel_rfl) ?_ | refine zV rfl ?_ | refine zW rfl ?_ | refine zF ?_ | with_reducible refine zL ?_ | refine zJ ?_ | refine zK ?_ | (with_reducible first | refine zO ?_ | refine zP ?_ | refine zG ?_ | refine zI ?_ | refine zH ?_) | refine zQ ?_
  refine yN (α := Unit) (fun _ => ⟨[.any, .any, I 0, .any, .any, .any, .any, .any, I 1, .any, .any, .any, .any, .any, .any, .any, .any, .any, .any, .any, .any, .any, .any, .any, .any, .any, .any, .any, .any, .any, .any, .any, .any, .any, .any, .any, .any, .any, .any, .any, .any, .any, .any, .any, .any, .any, .any, .any, .any, .any, .any, .any, .any], [gR []], 1⟩) (fun _ => 0) () ?_ ?_
  · exact tm rfl (by repeat' first | exact EqS.nil | refine EqS.any ?_ | refine EqS.same rfl ?_)
  · rintro ⟨⟩
    repeat' first | refine zM ?_ | refine zC ?_ | refine zR [] ?_ | (refine isA ?_; refine zc rfl ?_) | (refine isL ?_; refine zU rfl (by kernel_rfl) rfl rfl ?_) | (refine zd rfl ?_; refine zT rfl (by kernel_rfl) rfl rfl ?_) | exact sZ 1 [0] vG (by decide) (.cons rfl rfl rfl rfl (yH rfl) .nil) | refine zD ?_ | refine zE _ rfl (by kernel_rfl) ?_ | refine zV rfl ?_ | refine zW rfl ?_ | refine zF ?_ | with_reducible refine zL ?_ | refine zJ ?_ | refine zK ?_ | (with_reducible first | refine zO ?_ | refine zP ?_ | refine zG ?_ | refine zI ?_ | refine zH ?_) | refine zQ ?_
theorem qB : zp Go.Proofs.Try.prog 164 [.sl 0 0 0, I 0, I 0, I 0, fnG] [gR []] (.tup []) [gR []] true := by
  refine zu [] Go.Proofs.Try.func164 rfl rfl ?_
  simp only [Go.Proofs.Try.ntmps164, List.length_cons, List.length_nil, Nat.reduceAdd, Nat.reduceSub, List.replicate_succ, List.replicate_zero, List.cons_append, List.nil_append]
  repeat' first | refine zM ?_ | refine zC ?_ | refine zR [] ?_ | (refine isA ?_; refine zc rfl ?_) | (refine isL ?_; refine zU rfl (by kernel_rfl) rfl rfl ?_) | (refine zd rfl ?_; refine zT rfl (by kernel_rfl) rfl rfl ?_) | refine zD ?_ | refine zE _ rfl (by kernel_rfl) ?_ | refine zV rfl ?_ | refine zW rfl ?_ | refine zF ?_ | with_reducible refine zL ?_ | refine zJ ?_ | refine zK ?_ | (with_reducible first | refine zO ?_ | refine zP ?_ | refine zG ?_ | refine zI ?_ | refine zH ?_) | refine zQ ?_
  refine yN (α := Unit) (fun _ => ⟨((.sl 0 0 0) :: (I 0) :: (I 0) :: .any :: fnG :: .any :: .any :: .any :: .any :: .any :: .any :: .any :: .any :: .any :: .any :: .any :: .any :: .any :: .any :: .any :: .any :: .any :: .any :: .any :: .any :: .any :: .any :: .any :: .any :: .any :: .any :: .any :: .any :: .any :: .any :: .any :: .any :: .any :: .any :: .any :: .any :: .any :: .any :: .any :: .any :: .any :: .any :: .any :: .any :: .any :: .any :: .any :: .any :: .any :: .any :: .any :: .any :: .any :: .any :: .any :: .any :: .any :: .any :: .any :: .any :: .any :: .any :: .any :: .any :: .any :: .any :: .any :: .any :: .any :: .any :: .any :: .any :: .any :: .any :: .any :: .any :: .any :: .any :: .any :: .any :: .any :: .any :: .any :: .any :: .any :: .any :: .any :: .any :: .any :: .any :: .any :: .any :: .any :: .any :: .any :: .any :: .any :: .any :: .any :: .any :: .any :: .any :: .any :: .any :: .any :: .any :: .any :: .any :: .any :: .any :: .any :: .any :: .any :: .any :: .any :: .any :: .any :: .any :: .any :: .any :: .any :: .any :: .any :: .any :: .any :: .any :: .any :: .any :: .any :: .any :: .any :: .any :: .any :: .any :: .any :: .any :: .any :: .any :: .any :: .any :: .any :: .any :: .any :: []), [gR []], 1⟩) (fun _ => 0) () ?_ ?_
  · exact tm rfl (by repeat' first | exact EqS.nil | refine EqS.any ?_ | refine EqS.same rfl ?_)
  · rintro ⟨⟩
    repeat' first | refine zM ?_ | refine zC ?_ | refine zR [] ?_ | (refine isA ?_; refine zc rfl ?_) | (refine isL ?_; refine zU rfl (by kernel_rfl) rfl rfl ?_) | (refine zd rfl ?_; refine zT rfl (by kernel_rfl) rfl rfl ?_) | (refine yf 169 ?_; refine zg rfl (zz (K := []) (Rs' := [_]) [0] (by decide) rfl qD (.cons rfl rfl rfl (zS _ _) (zS _ _) .nil) (.cons (.sl rfl) (.cons (.same rfl) (.cons (.same rfl) (.cons (.same rfl) .nil)))) (fun q hq => by cases hq) rfl) rfl ?_) | (refine ye 169 rfl ?_; refine zY rfl (by kernel_rfl) rfl (zz (K := []) (Rs' := [_]) [0] (by decide) rfl qD (.cons rfl rfl rfl (zS _ _) (zS _ _) .nil) (.cons (.sl rfl) (.cons (.same rfl) (.cons (.same rfl) (.cons (.same rfl) .nil)))) (fun q hq => by cases hq) rfl) rfl ?_) | exact nG 1 [0] vG (by decide) (.cons rfl rfl rfl rfl (yH rfl) .nil) | refine zD ?_ | refine zE _ rfl (by kernel_rfl) ?_ | refine zV rfl ?_ | refine zW rfl ?_ | refine zF ?_ | with_reducible refine zL ?_ | refine zJ ?_ | refine zK ?_ | (with_reducible first | refine zO ?_ | refine zP ?_ | refine zG ?_ | refine zI ?_ | refine zH ?_) | refine zQ ?_
theorem qk : zp Go.Proofs.Try.prog 145 [.sl 0 0 0, fnG] [gR []] (.tup []) [gR []] true := by
  refine zu [] Go.Proofs.Try.func145 rfl rfl ?_
  simp only [Go.Proofs.Try.ntmps145, List.length_cons, List.length_nil, Nat.reduceAdd, Nat.reduceSub, List.replicate_succ, List.replicate_zero, List.cons_append, List.nil_append]
  repeat' first | refine zM ?_ | refine zC ?_ | refine zR [] ?_ | (refine isA ?_; refine zc rfl ?_) | (refine isL ?_; refine zU rfl (by kernel_rfl) rfl rfl ?_) | (refine zd rfl ?_; refine zT rfl (by kernel_rfl) rfl rfl ?_) | (refine yf 165 ?_; refine zg rfl (zZ rfl qC (.cons (.same rfl) .nil) rfl) rfl ?_) | (refine ye 165 rfl ?_; refine zY rfl (by kernel_rfl) rfl (zZ rfl qC (.cons (.same rfl) .nil) rfl) rfl ?_) | (refine yf 164 ?_; refine zg rfl (zz (K := []) (Rs' := [_]) [0] (by decide) rfl qB (.cons rfl rfl rfl (zS _ _) (zS _ _) .nil) (.cons (.sl rfl) (.cons (.same rfl) (.cons (.same rfl) (.cons (.same rfl) (.cons (.same rfl) .nil))))) (fun q hq => by cases hq) rfl) rfl ?_) | (refine ye 164 rfl ?_; refine zY rfl (by kernel_rfl) rfl (zz (K := []) (Rs' := [_]) [0] (by decide) rfl qB (.cons rfl rfl rfl (zS _ _) (zS _ _) .nil) (.cons (.sl rfl) (.cons (.same rfl) (.cons (.same rfl) (.cons (.same rfl) (.cons (.same rfl) .nil))))) (fun q hq => by cases hq) rfl) rfl ?_) | exact sZ 1 [0] vG (by decide) (.cons rfl rfl rfl rfl (yH rfl) .nil) | refine zD ?_ | refine zE _ rfl (by kernel_rfl) ?_ | refine zV rfl ?_ | refine zW rfl ?_ | refine zF ?_ | with_reducible refine zL ?_ | refine zJ ?_ | refine zK ?_ | (with_reducible first | refine zO ?_ | refine zP ?_ | refine zG ?_ | refine zI ?_ | refine zH ?_) | refine zQ ?_
theorem qj (xs : List Gr) (hl : xs.length ≤ 100000000) : zp Go.Proofs.Try.prog 145 [.sl 0 0 xs.length, fnG] [gR xs] (.tup []) [gR (y5 xs)] true := by
  by_cases h : xs = []
  · subst h
    have : y5 [] = [] := List.eq_nil_of_length_eq_zero (wD [])
    rw [this]
    exact qk
  · exact qi xs hl h
def sP (gs : List Gr) : List Gr := y5 (xL gs)
theorem qE (gs : List Gr) (hl : gs.length ≤ 100000000) : zp Go.Proofs.Try.prog 82 [gL gs] [] (.sl 0 0 (sP gs).length) [gR (sP gs)] false := td y5 gs hl (fun out h => qj out h) wD
end Go.Proofs.Ytkcicbigpbdjpaa.Ab.Gq
namespace Go.Proofs.Ytkcicbigpbdjpaa.Ab.Gq
open Go.RowKit
def yj (g : Gr) : List Gr → List Gr
  | [] => [g]
  | x :: xs => if x.k < g.k then x :: yj g xs else if x.k = g.k then yR x g :: xs else g :: x :: xs
def Asc (xs : List Gr) : Prop := xs.Pairwise fun x y => x.k < y.k
def yU (xs : List Gr) (g : Gr) : List Gr := if xs.any (isK g.k) then [] else [g]
theorem vI {x g : Gr} (h : x.k ≠ g.k) : yR x g = x := by simp [yR, h]
theorem vC {g : Gr} : ∀ {xs : List Gr}, (∀ x ∈ xs, x.k ≠ g.k) → xs.map (yR · g) = xs
  | [], _ => rfl
  | x :: xs, h => by rw [List.map_cons, vI (h x (List.mem_cons_self ..)), vC fun y hy => h y (List.mem_cons_of_mem _ hy)]
theorem nO {g : Gr} {xs : List Gr} (h : ∀ x ∈ xs, x.k ≠ g.k) : xs.any (isK g.k) = false := by
  rw [List.any_eq_false]
  intro x hx
  simp [isK, h x hx]
theorem ud {g : Gr} : ∀ {xs : List Gr} {z : Gr}, z ∈ yj g xs → z.k = g.k ∨ z ∈ xs
  | [], z, h => by simp [yj] at h; exact Or.inl (by rw [h])
  | x :: xs, z, h => by
    unfold yj at h
    split at h
    · rcases List.mem_cons.1 h with rfl | h
      · exact Or.inr (List.mem_cons_self ..)
      · rcases ud h with h | h
        · exact Or.inl h
        · exact Or.inr (List.mem_cons_of_mem _ h)
    · split at h
      · rename_i e
        rcases List.mem_cons.1 h with rfl | h
        · exact Or.inl (by rw [uK]; exact e)
        · exact Or.inr (List.mem_cons_of_mem _ h)
      · rcases List.mem_cons.1 h with rfl | h
        · exact Or.inl rfl
        · exact Or.inr h
theorem ug {g : Gr} : ∀ {xs : List Gr}, Asc xs → Asc (yj g xs)
  | [], _ => by simp [yj, Asc]
  | x :: xs, h => by
    obtain ⟨h1, h2⟩ := List.pairwise_cons.1 h
    unfold yj
    split
    · rename_i hlt
      refine List.pairwise_cons.2 ⟨fun z hz => ?_, ug h2⟩
      rcases ud hz with e | hz
      · rw [e]; exact hlt
      · exact h1 z hz
    · split
      · exact List.pairwise_cons.2 ⟨fun z hz => by rw [uK]; exact h1 z hz, h2⟩
      · refine List.pairwise_cons.2 ⟨fun z hz => ?_, h⟩
        rcases List.mem_cons.1 hz with rfl | hz
        · omega
        · have := h1 z hz; omega
theorem vi {g : Gr} : ∀ {xs : List Gr}, Asc xs → (yj g xs).Perm (xs.map (yR · g) ++ yU xs g)
  | [], _ => by simp [yj, yU]
  | x :: xs, h => by
    obtain ⟨h1, h2⟩ := List.pairwise_cons.1 h
    unfold yj
    split
    · rename_i hlt
      have hk : isK g.k x = false := by simp [isK]; omega
      have ht : yU (x :: xs) g = yU xs g := by simp [yU, hk]
      rw [ht, List.map_cons, vI (show x.k ≠ g.k by omega), List.cons_append]
      exact (vi h2).cons x
    · split
      · rename_i e
        have hk : isK g.k x = true := by simp [isK, e]
        have ht : yU (x :: xs) g = [] := by simp [yU, hk]
        rw [ht, List.append_nil, List.map_cons, vC fun z hz => by have := h1 z hz; omega]
      · rename_i n1 n2
        have hne : ∀ z ∈ x :: xs, z.k ≠ g.k := fun z hz => by
          rcases List.mem_cons.1 hz with rfl | hz
          · exact n2
          · have := h1 z hz; omega
        have ht : yU (x :: xs) g = [g] := by rw [yU, nO hne]; rfl
        rw [ht, vC hne]
        exact List.perm_append_comm (l₁ := [g])
theorem sL (x g : Gr) (xs : List Gr) : xw (x :: xs) g = if x.k = g.k then yR x g :: xs else x :: xw xs g := by
  unfold xw
  rw [List.findIdx?_cons]
  by_cases h : x.k = g.k
  · simp [isK, h]
  · have hk : isK g.k x = false := by simp [isK, h]
    rw [hk, if_neg h]
    cases hj : xs.findIdx? (isK g.k) with
    | none => simp
    | some j =>
      obtain ⟨hjl, _, _⟩ := List.findIdx?_eq_some_iff_getElem.1 hj
      simp [hjl]
theorem sK {g : Gr} : ∀ {xs : List Gr}, (xs.map (·.k)).Nodup → xw xs g = xs.map (yR · g) ++ yU xs g
  | [], _ => rfl
  | x :: xs, h => by
    rw [List.map_cons, List.nodup_cons] at h
    rw [sL]
    split
    · rename_i e
      have hk : isK g.k x = true := by simp [isK, e]
      have ht : yU (x :: xs) g = [] := by simp [yU, hk]
      rw [ht, List.append_nil, List.map_cons, vC fun z hz e2 => h.1 (List.mem_map.2 ⟨z, hz, e2.trans e.symm⟩)]
    · rename_i e
      have hk : isK g.k x = false := by simp [isK, e]
      have ht : yU (x :: xs) g = yU xs g := by simp [yU, hk]
      rw [ht, List.map_cons, vI e, sK h.2]
      rfl
theorem wx {xs : List Gr} (h : Asc xs) : (xs.map (·.k)).Nodup := by
  rw [List.Nodup, List.pairwise_map]
  exact h.imp fun h => by omega
theorem tI {xs ys : List Gr} (g : Gr) (h : xs.Perm ys) : yU xs g = yU ys g := by
  unfold yU
  rw [h.any_eq]
def z2 (gs : List Gr) : List Gr := gs.foldl (fun o g => yj g o) []
theorem uh : ∀ (gs a b : List Gr), Asc b → a.Perm b → Asc (gs.foldl (fun o g => yj g o) b) ∧ (gs.foldl xw a).Perm (gs.foldl (fun o g => yj g o) b)
  | [], a, b, h, hp => ⟨h, hp⟩
  | g :: gs, a, b, h, hp => by
    rw [List.foldl_cons, List.foldl_cons]
    refine uh gs _ _ (ug h) ?_
    have hn : (a.map (·.k)).Nodup := (hp.map _).nodup_iff.2 (wx h)
    rw [sK hn, tI g hp]
    exact ((hp.map _).append_right _).trans (vi h).symm
theorem uN {xs ys : List Gr} (hx : Asc xs) (hy : Asc ys) (hp : xs.Perm ys) : xs = ys :=
  hp.eq_of_pairwise (fun a b _ _ h1 h2 => absurd h1 (by omega)) hx hy
theorem py {xs : List Gr} (hn : (xs.map (·.k)).Nodup) : (y5 xs).Perm xs ∧ Asc (y5 xs) := by
  obtain ⟨⟨p1, p2, p3⟩, hs⟩ := sC xs
  have hp : (y5 xs).Perm xs := by
    have e1 : (wS xs).extract 0 xs.toArray.size = wS xs := by rw [← p1]; simp
    have e2 : xs.toArray.extract 0 xs.toArray.size = xs.toArray := by simp
    rw [e1, e2] at p3
    exact p3
  refine ⟨hp, ?_⟩
  have hle : (y5 xs).Pairwise fun x y => x.k ≤ y.k := by
    rw [List.pairwise_iff_getElem]
    intro i j hi hj hij
    have hl := wD xs
    have h := hs i j (Nat.zero_le _) hij (by simp; omega)
    rw [ub] at h
    have g1 : (wS xs)[i]! = (y5 xs)[i] := by
      rw [getElem!_pos (wS xs) i (by rw [y5, Array.length_toList] at hi; exact hi)]; rfl
    have g2 : (wS xs)[j]! = (y5 xs)[j] := by
      rw [getElem!_pos (wS xs) j (by rw [y5, Array.length_toList] at hj; exact hj)]; rfl
    rw [g1, g2] at h
    simpa using h
  have hn2 : ((y5 xs).map (·.k)).Nodup := (hp.map _).nodup_iff.2 hn
  rw [List.Nodup, List.pairwise_map] at hn2
  exact (hle.and hn2).imp fun ⟨h1, h2⟩ => by omega
theorem uZ (gs : List Gr) : sP gs = z2 gs := by
  obtain ⟨h1, h2⟩ := uh gs [] [] List.Pairwise.nil (.refl _)
  obtain ⟨h3, h4⟩ := py (xs := xL gs) ((h2.map _).nodup_iff.2 (wx h1))
  exact uN h4 h1 (h3.trans h2)
end Go.Proofs.Ytkcicbigpbdjpaa.Ab.Gq
namespace Go.Proofs.Ytkcicbigpbdjpaa.Ab.Gq
open Go.RowKit
theorem uS {H : List Reg} {h k off m : Nat} {xs : List Gr} (hH : H[h]? = some (gR xs)) (hk : k ≤ xs.length) (ho : off = k) (hm : m = xs.length - k) : Src H (.sl h off m) (xs.drop k).length (gT.flat (xs.drop k)) := by
  subst ho hm
  rw [List.length_drop]
  refine sF hH rfl (Nat.ble_eq_true_of_le (by
    show (off + (xs.length - off)) * 5 ≤ (gT.flat xs).length
    rw [zn]
    show _ ≤ xs.length * 5
    omega)) (s5 xs off)
theorem xk {H : List Reg} {h k off m : Nat} {xs : List Gr} (hH : H[h]? = some (gR xs)) (hk : k ≤ xs.length) (ho : off = 0) (hm : m = k) : Src H (.sl h off m) (xs.take k).length (gT.flat (xs.take k)) := by
  subst ho hm
  rw [show (xs.take m).length = m by simp; omega]
  refine sF hH rfl (Nat.ble_eq_true_of_le (by
    show (0 + m) * 5 ≤ (gT.flat xs).length
    rw [zn]
    show _ ≤ xs.length * 5
    omega)) (by
    have := th xs m
    rw [Nat.sub_zero] at this
    exact this)
theorem wE {H : List Reg} {h : Nat} {xs : List Gr} (hH : H[h]? = some (gR xs)) : Src H (.sl h 0 xs.length) xs.length (gT.flat xs) := by
  have := xk hH (Nat.le_refl xs.length) rfl rfl
  rwa [List.take_length] at this
theorem vE : ∀ {out : List Gr} {g : Gr} {k : Nat}, k ≤ out.length → (∀ j z, j < k → out[j]? = some z → z.k < g.k) → (∀ y, out[k]? = some y → g.k < y.k) → out.take k ++ g :: out.drop k = yj g out
  | [], g, k, hk, _, _ => by
    obtain rfl : k = 0 := by simpa using hk
    rfl
  | x :: xs, g, 0, hk, _, h => by
    have := h x rfl
    rw [yj, if_neg (by omega), if_neg (by omega)]
    rfl
  | x :: xs, g, k + 1, hk, h1, h2 => by
    have := h1 0 x (Nat.succ_pos _) rfl
    rw [yj, if_pos this, ← vE (out := xs) (g := g) (k := k) (by simpa using hk) (fun j z hj hz => h1 (j + 1) z (by omega) hz) (fun y hy => h2 y hy)]
    rfl
theorem uf : ∀ {out : List Gr} {g y : Gr} {k : Nat}, (∀ j z, j < k → out[j]? = some z → z.k < g.k) → out[k]? = some y → y.k = g.k → out.set k (yR y g) = yj g out
  | [], g, y, k, _, h, _ => by simp at h
  | x :: xs, g, y, 0, _, h, e => by
    simp only [List.getElem?_cons_zero, Option.some.injEq] at h
    subst h
    rw [yj, if_neg (by omega), if_pos e]
    rfl
  | x :: xs, g, y, k + 1, h1, h, e => by
    have := h1 0 x (Nat.succ_pos _) rfl
    rw [yj, if_pos this, ← uf (out := xs) (g := g) (k := k) (fun j z hj hz => h1 (j + 1) z (by omega) hz) (by simpa using h) e]
    rfl
theorem vk {gs : List Gr} {i : Nat} {z : Gr} (hz : gs[i]? = some z) : z2 (gs.take (i + 1)) = yj z (z2 (gs.take i)) := by
  rw [List.take_add_one, hz, z2, List.foldl_append]; rfl
theorem ue (g : Gr) : ∀ xs : List Gr, (yj g xs).length ≤ xs.length + 1
  | [] => Nat.le_refl _
  | x :: xs => by
    have := ue g xs
    unfold yj
    split
    · simp only [List.length_cons]; omega
    · split <;> simp
theorem vj : ∀ gs o : List Gr, (gs.foldl (fun o g => yj g o) o).length ≤ o.length + gs.length
  | [], o => Nat.le_refl _
  | g :: gs, o => by
    have h1 := ue g o
    have h2 := vj gs (yj g o)
    rw [List.foldl_cons, List.length_cons]
    omega
theorem wV (gs : List Gr) : (z2 gs).length ≤ gs.length := by
  have := vj gs []
  simpa [z2] using this
theorem qA (gs : List Gr) (hl : gs.length ≤ 100000000) : zp Go.Proofs.Try.prog 80 [gL gs] [] (.sl 0 0 (z2 gs).length) [gR (z2 gs)] false := by
  refine zu [2] Go.Proofs.Try.func80 rfl rfl ?_
  simp only [Go.Proofs.Try.ntmps80, List.length_cons, List.length_nil, Nat.reduceAdd, Nat.reduceSub, List.replicate_succ, List.replicate_zero, List.cons_append, List.nil_append]
  repeat' first | refine zM ?_ | refine zC ?_ | refine zR [] ?_ | (refine isA ?_; refine zc rfl ?_) | (refine isL ?_; refine zU rfl (by kernel_rfl) rfl rfl ?_) | (refine zd rfl ?_; refine zT rfl (by kernel_rfl) rfl rfl ?_) | refine zD ?_ | refine zE _ rfl (by kernel_rfl) ?_ | refine zV rfl ?_ | refine zW rfl ?_ | refine zF ?_ | with_reducible refine zL ?_ | refine zJ ?_ | refine zK ?_ | (with_reducible first | refine zO ?_ | refine zP ?_ | refine zG ?_ | refine zI ?_ | refine zH ?_) | refine zQ ?_
  refine yN (α := { i : Nat // i ≤ gs.length }) (fun i => ⟨((gL gs) :: .any :: .any :: (.sl 0 0 (z2 (gs.take i.1)).length) :: (I i.1) :: .any :: .any :: .any :: .any :: .any :: .any :: .any :: .any :: .any :: .any :: .any :: .any :: .any :: .any :: .any :: .any :: .any :: .any :: .any :: .any :: .any :: .any :: .any :: .any :: .any :: .any :: .any :: .any :: .any :: .any :: .any :: .any :: .any :: .any :: .any :: .any :: .any :: .any :: .any :: .any :: .any :: .any :: .any :: .any :: .any :: .any :: .any :: .any :: .any :: .any :: .any :: .any :: .any :: .any :: .any :: .any :: .any :: .any :: .any :: .any :: .any :: .any :: .any :: .any :: .any :: .any :: .any :: .any :: .any :: .any :: .any :: .any :: .any :: .any :: []), [gR (z2 (gs.take i.1))], 0⟩) (fun i => gs.length - i.1) ⟨0, Nat.zero_le _⟩ ?_ ?_
  · exact yv [0] rfl rfl (by decide) (.cons rfl rfl rfl rfl (zw (zS _ _)) .nil) (by repeat' first | exact zi | refine zf ?_ ?_ | exact zv | exact le_refl rfl | exact zx rfl rfl | exact zy rfl)
  · rintro ⟨i, hi⟩
    repeat' first | refine zM ?_ | refine zC ?_ | refine zR [] ?_ | (refine isA ?_; refine zc rfl ?_) | (refine isL ?_; refine zU rfl (by kernel_rfl) rfl rfl ?_) | (refine zd rfl ?_; refine zT rfl (by kernel_rfl) rfl rfl ?_) | refine zD ?_ | refine zE _ rfl (by kernel_rfl) ?_ | refine zV rfl ?_ | refine zW rfl ?_ | refine zF ?_ | with_reducible refine zL ?_ | refine zJ ?_ | refine zK ?_ | (with_reducible first | refine zO ?_ | refine zP ?_ | refine zG ?_ | refine zI ?_ | refine zH ?_) | refine zQ ?_
    refine zj rfl (fun h => ?_) (fun h => ?_)
    · have hlt : i < gs.length := by simpa using h
      obtain ⟨x, hx⟩ : ∃ z, gs[i]? = some z := ⟨_, List.getElem?_eq_getElem hlt⟩
      have e1 : z2 (gs.take (i + 1)) = yj x (z2 (gs.take i)) := vk hx
      have hol : (z2 (gs.take i)).length ≤ i := by
        have := wV (gs.take i)
        rw [List.length_take] at this
        omega
      generalize z2 (gs.take i) = out at e1 hol
      repeat' first | refine zM ?_ | refine zC ?_ | refine zR [] ?_ | (refine isA ?_; refine zc rfl ?_) | (refine isL ?_; refine zU rfl (by kernel_rfl) rfl rfl ?_) | (refine zd rfl ?_; refine zT rfl (by kernel_rfl) rfl rfl ?_) | refine zD ?_ | refine zE _ rfl (by kernel_rfl) ?_ | refine zV rfl ?_ | refine zW rfl ?_ | refine zF ?_ | with_reducible refine zL ?_ | refine zJ ?_ | refine zK ?_ | (with_reducible first | refine zO ?_ | refine zP ?_ | refine zG ?_ | refine zI ?_ | refine zH ?_) | refine zQ ?_
      refine yN (α := { k : Nat // k ≤ out.length ∧ ∀ j z, j < k → out[j]? = some z → z.k < x.k }) (fun k => ⟨((gL gs) :: .any :: .any :: (.sl 0 0 out.length) :: (I i) :: (I k.1) :: .any :: .any :: .any :: .any :: .any :: .any :: .any :: .any :: .any :: .any :: .any :: .any :: .any :: .any :: .any :: .any :: .any :: .any :: .any :: .any :: .any :: .any :: .any :: .any :: .any :: .any :: .any :: .any :: .any :: .any :: .any :: .any :: .any :: .any :: .any :: .any :: .any :: .any :: .any :: .any :: .any :: .any :: .any :: .any :: .any :: .any :: .any :: .any :: .any :: .any :: .any :: .any :: .any :: .any :: .any :: .any :: .any :: .any :: .any :: .any :: .any :: .any :: .any :: .any :: .any :: .any :: .any :: .any :: .any :: .any :: .any :: .any :: .any :: []), [gR out], 0⟩) (fun k => out.length - k.1) ⟨0, Nat.zero_le _, fun j z hj hz => absurd hj (Nat.not_lt_zero _)⟩ ?_ ?_
      · exact yv [0] rfl rfl (by decide) (.cons rfl rfl rfl rfl (zw (zS _ _)) .nil) (by repeat' first | exact zi | refine zf ?_ ?_ | exact zv | exact le_refl rfl | exact zx rfl rfl | exact zy rfl)
      · rintro ⟨k, hk, hB⟩
        repeat' first | refine zM ?_ | refine zC ?_ | refine zR [] ?_ | (refine isA ?_; refine zc rfl ?_) | (refine isL ?_; refine zU rfl (by kernel_rfl) rfl rfl ?_) | (refine zd rfl ?_; refine zT rfl (by kernel_rfl) rfl rfl ?_) | refine zD ?_ | refine zE _ rfl (by kernel_rfl) ?_ | refine zV rfl ?_ | refine zW rfl ?_ | refine zF ?_ | with_reducible refine zL ?_ | refine zJ ?_ | refine zK ?_ | (with_reducible first | refine zO ?_ | refine zP ?_ | refine zG ?_ | refine zI ?_ | refine zH ?_) | refine zQ ?_
        refine uF rfl rfl rfl rfl (fun p1 => ?_) (fun p1 => ?_)
        · have q1 : k < out.length := by simpa using p1
          obtain ⟨y, hy⟩ : ∃ z, out[k]? = some z := ⟨_, List.getElem?_eq_getElem q1⟩
          repeat' first | refine zM ?_ | refine zC ?_ | refine zR [] ?_ | (refine isA ?_; refine zc rfl ?_) | (refine isL ?_; refine zU rfl (by kernel_rfl) rfl rfl ?_) | (refine zd rfl ?_; refine zT rfl (by kernel_rfl) rfl rfl ?_) | (refine xI (x := .tmp 24) ?_; refine zg rfl (yO (t := gT) (z := x) rfl rfl rfl rfl (Int.natCast_nonneg i) hx) rfl ?_) | (refine xH (x := .tmp 24) rfl ?_; refine zY rfl (by kernel_rfl) rfl (yO (t := gT) (z := x) rfl rfl rfl rfl (Int.natCast_nonneg i) hx) rfl ?_) | (refine xI (x := .tmp 19) ?_; refine zg rfl (vl (t := gT) (xs := out) (j := (k : Int)) rfl rfl rfl rfl rfl (Int.natCast_nonneg _) (by omega)) rfl ?_) | (refine xH (x := .tmp 19) rfl ?_; refine zY rfl (by kernel_rfl) rfl (vl (t := gT) (xs := out) (j := (k : Int)) rfl rfl rfl rfl rfl (Int.natCast_nonneg _) (by omega)) rfl ?_) | (refine qb (x := .tmp 22) ?_; refine zg rfl (qY (T := gT) (i := k) (off := 0) (xs := out) (z := y) (v := I y.k) rfl rfl rfl hy rfl) rfl ?_) | (refine qa (x := .tmp 22) rfl ?_; refine zY rfl (by kernel_rfl) rfl (qY (T := gT) (i := k) (off := 0) (xs := out) (z := y) (v := I y.k) rfl rfl rfl hy rfl) rfl ?_) | refine zD ?_ | refine zE _ rfl (by kernel_rfl) ?_ | refine zV rfl ?_ | refine zW rfl ?_ | refine zF ?_ | with_reducible refine zL ?_ | refine zJ ?_ | refine zK ?_ | (with_reducible first | refine zO ?_ | refine zP ?_ | refine zG ?_ | refine zI ?_ | refine zH ?_) | refine zQ ?_
          refine zj rfl (fun p2 => ?_) (fun p2 => ?_)
          · have q2 := of_decide_eq_true p2
            repeat' first | refine zM ?_ | refine zC ?_ | refine zR [] ?_ | (refine isA ?_; refine zc rfl ?_) | (refine isL ?_; refine zU rfl (by kernel_rfl) rfl rfl ?_) | (refine zd rfl ?_; refine zT rfl (by kernel_rfl) rfl rfl ?_) | refine zD ?_ | refine zE _ rfl (by kernel_rfl) ?_ | refine zV rfl ?_ | refine zW rfl ?_ | refine zF ?_ | with_reducible refine zL ?_ | refine zJ ?_ | refine zK ?_ | (with_reducible first | refine zO ?_ | refine zP ?_ | refine zG ?_ | refine zI ?_ | refine zH ?_) | refine zQ ?_
            refine ⟨⟨k + 1, q1, fun j z hj hz => ?_⟩, by simp only; omega, ?_⟩
            · rcases Nat.lt_or_ge j k with hjk | hjk
              · exact hB j z hjk hz
              · obtain rfl : j = k := by omega
                rw [hy] at hz
                cases hz
                exact q2
            · exact yv [0] rfl rfl (by decide) (.cons rfl rfl rfl rfl (zw (zS _ _)) .nil) (by
                repeat' first | exact zi | refine zf ?_ ?_ | exact zv | exact le_refl rfl | exact zx rfl rfl | exact xg (by omega) (by omega))
          · have q2 := of_decide_eq_false p2
            repeat' first | refine zM ?_ | refine zC ?_ | refine zR [] ?_ | (refine isA ?_; refine zc rfl ?_) | (refine isL ?_; refine zU rfl (by kernel_rfl) rfl rfl ?_) | (refine zd rfl ?_; refine zT rfl (by kernel_rfl) rfl rfl ?_) | refine zD ?_ | refine zE _ rfl (by kernel_rfl) ?_ | refine zV rfl ?_ | refine zW rfl ?_ | refine zF ?_ | with_reducible refine zL ?_ | refine zJ ?_ | refine zK ?_ | (with_reducible first | refine zO ?_ | refine zP ?_ | refine zG ?_ | refine zI ?_ | refine zH ?_) | refine zQ ?_
            refine uF rfl rfl rfl rfl (fun p3 => ?_) (fun p3 => absurd q1 (by simpa using p3))
            repeat' first | refine zM ?_ | refine zC ?_ | refine zR [] ?_ | (refine isA ?_; refine zc rfl ?_) | (refine isL ?_; refine zU rfl (by kernel_rfl) rfl rfl ?_) | (refine zd rfl ?_; refine zT rfl (by kernel_rfl) rfl rfl ?_) | (refine xI (x := .tmp 43) ?_; refine zg rfl (yO (t := gT) (z := x) rfl rfl rfl rfl (Int.natCast_nonneg i) hx) rfl ?_) | (refine xH (x := .tmp 43) rfl ?_; refine zY rfl (by kernel_rfl) rfl (yO (t := gT) (z := x) rfl rfl rfl rfl (Int.natCast_nonneg i) hx) rfl ?_) | (refine xI (x := .tmp 38) ?_; refine zg rfl (vl (t := gT) (xs := out) (j := (k : Int)) rfl rfl rfl rfl rfl (Int.natCast_nonneg _) (by omega)) rfl ?_) | (refine xH (x := .tmp 38) rfl ?_; refine zY rfl (by kernel_rfl) rfl (vl (t := gT) (xs := out) (j := (k : Int)) rfl rfl rfl rfl rfl (Int.natCast_nonneg _) (by omega)) rfl ?_) | (refine qb (x := .tmp 41) ?_; refine zg rfl (qY (T := gT) (i := k) (off := 0) (xs := out) (z := y) (v := I y.k) rfl rfl rfl hy rfl) rfl ?_) | (refine qa (x := .tmp 41) rfl ?_; refine zY rfl (by kernel_rfl) rfl (qY (T := gT) (i := k) (off := 0) (xs := out) (z := y) (v := I y.k) rfl rfl rfl hy rfl) rfl ?_) | refine zD ?_ | refine zE _ rfl (by kernel_rfl) ?_ | refine zV rfl ?_ | refine zW rfl ?_ | refine zF ?_ | with_reducible refine zL ?_ | refine zJ ?_ | refine zK ?_ | (with_reducible first | refine zO ?_ | refine zP ?_ | refine zG ?_ | refine zI ?_ | refine zH ?_) | refine zQ ?_
            refine zj rfl (fun p4 => ?_) (fun p4 => ?_)
            · have q4 : y.k = x.k := of_decide_eq_true p4
              have hfin := uf hB hy q4
              rw [← hfin] at e1
              repeat' first | (refine wi rfl ?_; refine pf rfl (by kernel_rfl) rfl (wn (T := gT) (i := k) (xs := out) (z := yR y x) rfl rfl rfl rfl rfl q1) rfl ?_) | refine zM ?_ | refine zC ?_ | refine zR [12] ?_ | (refine isA ?_; refine zc rfl ?_) | (refine isL ?_; refine zU rfl (by kernel_rfl) rfl rfl ?_) | (refine zd rfl ?_; refine zT rfl (by kernel_rfl) rfl rfl ?_) | (refine xI (x := .tmp 56) ?_; refine zg rfl (yO (t := gT) (z := x) rfl rfl rfl rfl (Int.natCast_nonneg i) hx) rfl ?_) | (refine xH (x := .tmp 56) rfl ?_; refine zY rfl (by kernel_rfl) rfl (yO (t := gT) (z := x) rfl rfl rfl rfl (Int.natCast_nonneg i) hx) rfl ?_) | (refine xI ?_; refine zg rfl (vl (t := gT) (xs := out) (j := (k : Int)) rfl rfl rfl rfl rfl (Int.natCast_nonneg _) (by omega)) rfl ?_) | (refine xH rfl ?_; refine zY rfl (by kernel_rfl) rfl (vl (t := gT) (xs := out) (j := (k : Int)) rfl rfl rfl rfl rfl (Int.natCast_nonneg _) (by omega)) rfl ?_) | (refine qb (x := .tmp 54) ?_; refine zg rfl (qZ (T := gT) (xs := out) (i := k) (z := y) rfl rfl rfl hy) rfl ?_) | (refine qa (x := .tmp 54) rfl ?_; refine zY rfl (by kernel_rfl) rfl (qZ (T := gT) (xs := out) (i := k) (z := y) rfl rfl rfl hy) rfl ?_) | (refine yf 100 ?_; refine zg rfl (zZ rfl (u7 y x) (.cons (.same rfl) (.cons (.same rfl) .nil)) rfl) rfl ?_) | (refine ye 100 rfl ?_; refine zY rfl (by kernel_rfl) rfl (zZ rfl (u7 y x) (.cons (.same rfl) (.cons (.same rfl) .nil)) rfl) rfl ?_) | refine zD ?_ | refine zE _ rfl (by kernel_rfl) ?_ | refine zV rfl ?_ | refine zW rfl ?_ | refine zF ?_ | with_reducible refine zL ?_ | refine zJ ?_ | refine zK ?_ | (with_reducible first | refine zO ?_ | refine zP ?_ | refine zG ?_ | refine zI ?_ | refine zH ?_) | refine zQ ?_
              refine ⟨⟨i + 1, hlt⟩, by simp only; omega, ?_⟩
              simp only [e1]
              exact yv [0] rfl rfl (by decide) (.cons rfl rfl rfl rfl (zw (zS _ _)) .nil) (by repeat' first | exact zi | refine zf ?_ ?_ | exact zv | exact le_refl rfl | exact zy rfl | exact zx rfl rfl | exact zx rfl (by simp) | exact xg (by omega) (by omega))
            · have q4 : y.k ≠ x.k := of_decide_eq_false p4
              have hfin := vE hk hB (fun z hz => by rw [hy] at hz; cases hz; omega)
              have hkl : k ≤ i := by omega
              repeat' first | refine zM ?_ | refine zC ?_ | (refine isA ?_; refine zc rfl ?_) | (refine isL ?_; refine zU rfl (by kernel_rfl) rfl rfl ?_) | (refine zd rfl ?_; refine zT rfl (by kernel_rfl) rfl rfl ?_) | refine zD ?_ | refine zE _ rfl (by kernel_rfl) ?_ | refine zV rfl ?_ | refine zW rfl ?_ | refine zF ?_ | with_reducible refine zL ?_ | refine zJ ?_ | refine zK ?_ | (with_reducible first | refine zO ?_ | refine zP ?_ | refine zG ?_ | refine zI ?_ | refine zH ?_) | refine zQ ?_
              refine tC (fun H => H[0]? = some (gR out)) 10 rfl ?_
              refine yi 5 rfl rfl (by kernel_rfl) rfl (fun _ => rfl) rfl ?_
              refine yi 6 rfl rfl (by kernel_rfl) rfl (fun _ => rfl) rfl ?_
              refine wR 7 rfl rfl (by kernel_rfl) rfl (fun H hG => yF (l := (k : Int)) (h := (out.length : Int)) rfl rfl hG (Nat.zero_le _) rfl (.yes _ rfl) (.no _) (by omega) (by omega) (by omega)) rfl ?_
              refine yi 0 rfl rfl (by kernel_rfl) rfl (fun _ => rfl) rfl ?_
              refine yi 1 rfl rfl (by kernel_rfl) rfl (fun _ => rfl) rfl ?_
              refine wR 2 rfl rfl (by kernel_rfl) rfl (fun _ _ => yO (t := gT) (z := x) rfl rfl rfl rfl (Int.natCast_nonneg i) hx) rfl ?_
              refine yi 3 rfl rfl (by kernel_rfl) rfl (fun _ => rfl) rfl ?_
              refine vA 4 (by kernel_rfl) ?_
              refine pm rfl rfl rfl rfl rfl ?_
              refine vA 8 (by kernel_rfl) ?_
              refine nL rfl rfl (xW (t := gT) (xs := [x]) (ys := out.drop k) rfl rfl rfl rfl (uS rfl hk (by simp) (by simp)) (by simp; omega) rfl) rfl rfl ?_
              refine yi 9 rfl rfl (by kernel_rfl) rfl (fun _ => rfl) rfl ?_
              refine wq (by kernel_rfl) ?_
              repeat' first | refine zM ?_ | refine zC ?_ | refine zR [] ?_ | (refine isA ?_; refine zc rfl ?_) | (refine isL ?_; refine zU rfl (by kernel_rfl) rfl rfl ?_) | (refine zd rfl ?_; refine zT rfl (by kernel_rfl) rfl rfl ?_) | (refine isAx ?_; refine zg rfl (yF (l := (0 : Int)) (h := (k : Int)) rfl rfl rfl (Nat.zero_le _) rfl (.no 0) (.yes _ rfl) (Int.le_refl 0) (Int.natCast_nonneg k) (by omega)) rfl ?_) | (refine isLx rfl ?_; refine zY rfl (by kernel_rfl) rfl (yF (l := (0 : Int)) (h := (k : Int)) rfl rfl rfl (Nat.zero_le _) rfl (.no 0) (.yes _ rfl) (Int.le_refl 0) (Int.natCast_nonneg k) (by omega)) rfl ?_) | (refine uH ?_; refine zg rfl (xW (t := gT) (xs := []) (ys := out.take k) rfl rfl rfl rfl (xk rfl hk (by simp) (by simp)) (by simp; omega) rfl) rfl ?_) | (refine uG rfl ?_; refine zY rfl (by kernel_rfl) rfl (xW (t := gT) (xs := []) (ys := out.take k) rfl rfl rfl rfl (xk rfl hk (by simp) (by simp)) (by simp; omega) rfl) rfl ?_) | (refine uH ?_; refine zg rfl (xW (t := gT) (xs := [] ++ out.take k) (ys := [x] ++ out.drop k) rfl rfl rfl rfl (wE rfl) (by simp; omega) rfl) rfl ?_) | (refine uG rfl ?_; refine zY rfl (by kernel_rfl) rfl (xW (t := gT) (xs := [] ++ out.take k) (ys := [x] ++ out.drop k) rfl rfl rfl rfl (wE rfl) (by simp; omega) rfl) rfl ?_) | refine zD ?_ | refine zE _ rfl (by kernel_rfl) ?_ | refine zV rfl ?_ | refine zW rfl ?_ | refine zF ?_ | with_reducible refine zL ?_ | refine zJ ?_ | refine zK ?_ | (with_reducible first | refine zO ?_ | refine zP ?_ | refine zG ?_ | refine zI ?_ | refine zH ?_) | refine zQ ?_
              refine ⟨⟨i + 1, hlt⟩, by simp only; omega, ?_⟩
              exact yv [5] rfl rfl (by decide) (.cons rfl rfl rfl rfl (xf (show gT.flat ([] ++ out.take k ++ ([x] ++ out.drop k)) = gT.flat (z2 (gs.take (i + 1))) by rw [e1, ← hfin]; rfl) (zS _ _)) .nil) (by
                repeat' first | exact zi | refine zf ?_ ?_ | exact zv | exact le_refl rfl | exact zx rfl (show ([] ++ out.take k ++ ([x] ++ out.drop k)).length = (z2 (gs.take (i + 1))).length by rw [e1, ← hfin]; rfl) | exact zx rfl (show (z2 (gs.take (i + 1))).length = ([] ++ out.take k ++ ([x] ++ out.drop k)).length by rw [e1, ← hfin]; rfl) | exact xg hlt (by omega))
        · have q1 : ¬ k < out.length := by simpa using p1
          have hfin := vE hk hB (fun z hz => absurd (List.getElem?_eq_some_iff.1 hz).1 q1)
          have hkl : k ≤ i := by omega
          repeat' first | refine zM ?_ | refine zC ?_ | refine zR [] ?_ | (refine isA ?_; refine zc rfl ?_) | (refine isL ?_; refine zU rfl (by kernel_rfl) rfl rfl ?_) | (refine zd rfl ?_; refine zT rfl (by kernel_rfl) rfl rfl ?_) | refine zD ?_ | refine zE _ rfl (by kernel_rfl) ?_ | refine zV rfl ?_ | refine zW rfl ?_ | refine zF ?_ | with_reducible refine zL ?_ | refine zJ ?_ | refine zK ?_ | (with_reducible first | refine zO ?_ | refine zP ?_ | refine zG ?_ | refine zI ?_ | refine zH ?_) | refine zQ ?_
          refine uF rfl rfl rfl rfl (fun p3 => absurd (by simpa using p3) q1) (fun p3 => ?_)
          repeat' first | refine zM ?_ | refine zC ?_ | (refine isA ?_; refine zc rfl ?_) | (refine isL ?_; refine zU rfl (by kernel_rfl) rfl rfl ?_) | (refine zd rfl ?_; refine zT rfl (by kernel_rfl) rfl rfl ?_) | refine zD ?_ | refine zE _ rfl (by kernel_rfl) ?_ | refine zV rfl ?_ | refine zW rfl ?_ | refine zF ?_ | with_reducible refine zL ?_ | refine zJ ?_ | refine zK ?_ | (with_reducible first | refine zO ?_ | refine zP ?_ | refine zG ?_ | refine zI ?_ | refine zH ?_) | refine zQ ?_
          refine tC (fun H => H[0]? = some (gR out)) 10 rfl ?_
          refine yi 5 rfl rfl (by kernel_rfl) rfl (fun _ => rfl) rfl ?_
          refine yi 6 rfl rfl (by kernel_rfl) rfl (fun _ => rfl) rfl ?_
          refine wR 7 rfl rfl (by kernel_rfl) rfl (fun H hG => yF (l := (k : Int)) (h := (out.length : Int)) rfl rfl hG (Nat.zero_le _) rfl (.yes _ rfl) (.no _) (by omega) (by omega) (by omega)) rfl ?_
          refine yi 0 rfl rfl (by kernel_rfl) rfl (fun _ => rfl) rfl ?_
          refine yi 1 rfl rfl (by kernel_rfl) rfl (fun _ => rfl) rfl ?_
          refine wR 2 rfl rfl (by kernel_rfl) rfl (fun _ _ => yO (t := gT) (z := x) rfl rfl rfl rfl (Int.natCast_nonneg i) hx) rfl ?_
          refine yi 3 rfl rfl (by kernel_rfl) rfl (fun _ => rfl) rfl ?_
          refine vA 4 (by kernel_rfl) ?_
          refine pm rfl rfl rfl rfl rfl ?_
          refine vA 8 (by kernel_rfl) ?_
          refine nL rfl rfl (xW (t := gT) (xs := [x]) (ys := out.drop k) rfl rfl rfl rfl (uS rfl hk (by simp) (by simp)) (by simp; omega) rfl) rfl rfl ?_
          refine yi 9 rfl rfl (by kernel_rfl) rfl (fun _ => rfl) rfl ?_
          refine wq (by kernel_rfl) ?_
          repeat' first | refine zM ?_ | refine zC ?_ | refine zR [] ?_ | (refine isA ?_; refine zc rfl ?_) | (refine isL ?_; refine zU rfl (by kernel_rfl) rfl rfl ?_) | (refine zd rfl ?_; refine zT rfl (by kernel_rfl) rfl rfl ?_) | (refine isAx ?_; refine zg rfl (yF (l := (0 : Int)) (h := (k : Int)) rfl rfl rfl (Nat.zero_le _) rfl (.no 0) (.yes _ rfl) (Int.le_refl 0) (Int.natCast_nonneg k) (by omega)) rfl ?_) | (refine isLx rfl ?_; refine zY rfl (by kernel_rfl) rfl (yF (l := (0 : Int)) (h := (k : Int)) rfl rfl rfl (Nat.zero_le _) rfl (.no 0) (.yes _ rfl) (Int.le_refl 0) (Int.natCast_nonneg k) (by omega)) rfl ?_) | (refine uH ?_; refine zg rfl (xW (t := gT) (xs := []) (ys := out.take k) rfl rfl rfl rfl (xk rfl hk (by simp) (by simp)) (by simp; omega) rfl) rfl ?_) | (refine uG rfl ?_; refine zY rfl (by kernel_rfl) rfl (xW (t := gT) (xs := []) (ys := out.take k) rfl rfl rfl rfl (xk rfl hk (by simp) (by simp)) (by simp; omega) rfl) rfl ?_) | (refine uH ?_; refine zg rfl (xW (t := gT) (xs := [] ++ out.take k) (ys := [x] ++ out.drop k) rfl rfl rfl rfl (wE rfl) (by simp; omega) rfl) rfl ?_) | (refine uG rfl ?_; refine zY rfl (by kernel_rfl) rfl (xW (t := gT) (xs := [] ++ out.take k) (ys := [x] ++ out.drop k) rfl rfl rfl rfl (wE rfl) (by simp; omega) rfl) rfl ?_) | refine zD ?_ | refine zE _ rfl (by kernel_rfl) ?_ | refine zV rfl ?_ | refine zW rfl ?_ | refine zF ?_ | with_reducible refine zL ?_ | refine zJ ?_ | refine zK ?_ | (with_reducible first | refine zO ?_ | refine zP ?_ | refine zG ?_ | refine zI ?_ | refine zH ?_) | refine zQ ?_
          refine ⟨⟨i + 1, hlt⟩, by simp only; omega, ?_⟩
          exact yv [5] rfl rfl (by decide) (.cons rfl rfl rfl rfl (xf (show gT.flat ([] ++ out.take k ++ ([x] ++ out.drop k)) = gT.flat (z2 (gs.take (i + 1))) by rw [e1, ← hfin]; rfl) (zS _ _)) .nil) (by
            repeat' first | exact zi | refine zf ?_ ?_ | exact zv | exact le_refl rfl | exact zx rfl (show ([] ++ out.take k ++ ([x] ++ out.drop k)).length = (z2 (gs.take (i + 1))).length by rw [e1, ← hfin]; rfl) | exact zx rfl (show (z2 (gs.take (i + 1))).length = ([] ++ out.take k ++ ([x] ++ out.drop k)).length by rw [e1, ← hfin]; rfl) | exact xg hlt (by omega))
    · have hge : i = gs.length := by
        have : ¬ ((i : Int) < gs.length) := by simpa using h
        omega
      subst hge
      have e2 : z2 (gs.take gs.length) = z2 gs := by rw [List.take_length]
      repeat' first | refine zM ?_ | refine zC ?_ | refine zR [] ?_ | (refine isA ?_; refine zc rfl ?_) | (refine isL ?_; refine zU rfl (by kernel_rfl) rfl rfl ?_) | (refine zd rfl ?_; refine zT rfl (by kernel_rfl) rfl rfl ?_) | exact qg (ty := gT) rfl rfl rfl rfl (by simp only [e2]) e2 (vF _) | refine zD ?_ | refine zE _ rfl (by kernel_rfl) ?_ | refine zV rfl ?_ | refine zW rfl ?_ | refine zF ?_ | with_reducible refine zL ?_ | refine zJ ?_ | refine zK ?_ | (with_reducible first | refine zO ?_ | refine zP ?_ | refine zG ?_ | refine zI ?_ | refine zH ?_) | refine zQ ?_
end Go.Proofs.Ytkcicbigpbdjpaa.Ab.Gq
namespace Go.Proofs.Ytkcicbigpbdjpaa.Ab.Gq
open Go.RowKit
def tU (rs : List Rw) : List Gr := sP (rs.map ofR)
theorem qU (gs : List Gr) : (sP gs).length ≤ gs.length := by rw [uZ]; exact wV gs
theorem qQ (rs : List Rw) : (tU rs).length ≤ rs.length := by
  have := qU (rs.map ofR)
  rwa [List.length_map] at this
theorem nJ (rs : List Rw) (hl : rs.length ≤ 100000000) : zp Go.Proofs.Try.prog 86 [rwL rs] [] (.sl 0 0 (tU rs).length) [gR (tU rs)] false := by
  have cm := qA (rs.map ofR) (by rw [List.length_map]; exact hl)
  rw [← uZ] at cm
  refine zu [2] Go.Proofs.Try.func86 rfl rfl ?_
  simp only [Go.Proofs.Try.ntmps86, List.length_cons, List.length_nil, Nat.reduceAdd, Nat.reduceSub, List.replicate_succ, List.replicate_zero, List.cons_append, List.nil_append]
  repeat' first | refine zM ?_ | refine zC ?_ | refine zR [] ?_ | (refine isA ?_; refine zc rfl ?_) | (refine isL ?_; refine zU rfl (by kernel_rfl) rfl rfl ?_) | (refine zd rfl ?_; refine zT rfl (by kernel_rfl) rfl rfl ?_) | refine zD ?_ | refine zE _ rfl (by kernel_rfl) ?_ | refine zV rfl ?_ | refine zW rfl ?_ | refine zF ?_ | with_reducible refine zL ?_ | refine zJ ?_ | refine zK ?_ | (with_reducible first | refine zO ?_ | refine zP ?_ | refine zG ?_ | refine zI ?_ | refine zH ?_) | refine zQ ?_
  refine yN (α := { p : Nat × List Gr // p.1 ≤ rs.length ∧ p.2 = (rs.take p.1).map ofR }) (fun p => ⟨[rwL rs, .any, .any, .sl 0 0 p.1.2.length, I p.1.1, .any, .any, .any, .any, .any, .any, .any, .any, .any, .any, .any, .any, .any, .any, .any, .any, .any], [gR p.1.2], 0⟩) (fun p => rs.length - p.1.1) ⟨(0, []), Nat.zero_le _, rfl⟩ ?_ ?_
  · exact yv [0] rfl rfl (by decide) (.cons rfl rfl rfl rfl (yH rfl) .nil) (by repeat' first | exact zi | refine zf ?_ ?_ | exact zv | exact le_refl rfl | exact zx rfl rfl | exact zy rfl)
  · rintro ⟨⟨i, t⟩, hi, ht⟩
    simp only at hi ht
    have htl : t.length ≤ 100000000 := by rw [ht]; simp; omega
    repeat' first | refine zM ?_ | refine zC ?_ | refine zR [] ?_ | (refine isA ?_; refine zc rfl ?_) | (refine isL ?_; refine zU rfl (by kernel_rfl) rfl rfl ?_) | (refine zd rfl ?_; refine zT rfl (by kernel_rfl) rfl rfl ?_) | refine zD ?_ | refine zE _ rfl (by kernel_rfl) ?_ | refine zV rfl ?_ | refine zW rfl ?_ | refine zF ?_ | with_reducible refine zL ?_ | refine zJ ?_ | refine zK ?_ | (with_reducible first | refine zO ?_ | refine zP ?_ | refine zG ?_ | refine zI ?_ | refine zH ?_) | refine zQ ?_
    refine zj rfl (fun h => ?_) (fun h => ?_)
    · have hlt : i < rs.length := by simpa using h
      obtain ⟨z, hz⟩ : ∃ z, rs[i]? = some z := ⟨_, List.getElem?_eq_getElem hlt⟩
      repeat' first | (refine isA ?_; refine zg rfl (uE rfl rfl rfl rfl rfl) rfl ?_) | refine zM ?_ | refine zC ?_ | refine zR [] ?_ | (refine isA ?_; refine zc rfl ?_) | (refine isL ?_; refine zU rfl (by kernel_rfl) rfl rfl ?_) | (refine zd rfl ?_; refine zT rfl (by kernel_rfl) rfl rfl ?_) | (refine xI ?_; refine zg rfl (yO (t := rwT) (z := z) rfl rfl rfl rfl (Int.natCast_nonneg i) hz) rfl ?_) | (refine xH rfl ?_; refine zY rfl (by kernel_rfl) rfl (yO (t := rwT) (z := z) rfl rfl rfl rfl (Int.natCast_nonneg i) hz) rfl ?_) | (refine yf 103 ?_; refine zg rfl (zZ rfl (u6 z) (.cons (.same rfl) .nil) rfl) rfl ?_) | (refine ye 103 rfl ?_; refine zY rfl (by kernel_rfl) rfl (zZ rfl (u6 z) (.cons (.same rfl) .nil) rfl) rfl ?_) | (refine uH ?_; refine zg rfl (xW (t := gT) (xs := t) (ys := [ofR z]) rfl rfl rfl rfl (.lst _ _) (by simp; omega) rfl) rfl ?_) | (refine uG rfl ?_; refine zY rfl (by kernel_rfl) rfl (xW (t := gT) (xs := t) (ys := [ofR z]) rfl rfl rfl rfl (.lst _ _) (by simp; omega) rfl) rfl ?_) | refine zD ?_ | refine zE _ rfl (by kernel_rfl) ?_ | refine zV rfl ?_ | refine zW rfl ?_ | refine zF ?_ | with_reducible refine zL ?_ | refine zJ ?_ | refine zK ?_ | (with_reducible first | refine zO ?_ | refine zP ?_ | refine zG ?_ | refine zI ?_ | refine zH ?_) | refine zQ ?_
      refine ⟨⟨(i + 1, t ++ [ofR z]), hlt, by rw [List.take_add_one, hz, ht]; simp⟩, by simp only; omega, ?_⟩
      exact yv [1] rfl rfl (by decide) (.cons rfl rfl rfl rfl (zw (zS _ _)) .nil) (by repeat' first | exact zi | refine zf ?_ ?_ | exact zv | exact le_refl rfl | exact zy rfl | exact zx rfl rfl | exact zx rfl (by simp) | exact xg (by omega) (by omega))
    · have hge : i = rs.length := by
        have : ¬ ((i : Int) < rs.length) := by simpa using h
        omega
      subst hge
      rw [List.take_length] at ht
      subst ht
      repeat' first | refine zM ?_ | refine zC ?_ | refine zR [] ?_ | (refine isA ?_; refine zc rfl ?_) | (refine isL ?_; refine zU rfl (by kernel_rfl) rfl rfl ?_) | (refine zd rfl ?_; refine zT rfl (by kernel_rfl) rfl rfl ?_) | (refine yf 80 ?_; refine zg rfl (ya rfl cm (.cons (va (n := 0) rfl) .nil) (fun q hq => by simp at hq; subst hq; exact zS _ _) rfl rfl) rfl ?_) | (refine ye 80 rfl ?_; refine zY rfl (by kernel_rfl) rfl (ya rfl cm (.cons (va (n := 0) rfl) .nil) (fun q hq => by simp at hq; subst hq; exact zS _ _) rfl rfl) rfl ?_) | exact qg (ty := gT) rfl rfl rfl rfl rfl rfl (vF _) | refine zD ?_ | refine zE _ rfl (by kernel_rfl) ?_ | refine zV rfl ?_ | refine zW rfl ?_ | refine zF ?_ | with_reducible refine zL ?_ | refine zJ ?_ | refine zK ?_ | (with_reducible first | refine zO ?_ | refine zP ?_ | refine zG ?_ | refine zI ?_ | refine zH ?_) | refine zQ ?_
theorem nK (rs : List Rw) (hl : rs.length ≤ 100000000) : zp Go.Proofs.Try.prog 87 [rwL rs] [] (.sl 0 0 (tU rs).length) [gR (tU rs)] false := by
  have cm := qE (rs.map ofR) (by rw [List.length_map]; exact hl)
  refine zu [2] Go.Proofs.Try.func87 rfl rfl ?_
  simp only [Go.Proofs.Try.ntmps87, List.length_cons, List.length_nil, Nat.reduceAdd, Nat.reduceSub, List.replicate_succ, List.replicate_zero, List.cons_append, List.nil_append]
  repeat' first | refine zM ?_ | refine zC ?_ | refine zR [] ?_ | (refine isA ?_; refine zc rfl ?_) | (refine isL ?_; refine zU rfl (by kernel_rfl) rfl rfl ?_) | (refine zd rfl ?_; refine zT rfl (by kernel_rfl) rfl rfl ?_) | refine zD ?_ | refine zE _ rfl (by kernel_rfl) ?_ | refine zV rfl ?_ | refine zW rfl ?_ | refine zF ?_ | with_reducible refine zL ?_ | refine zJ ?_ | refine zK ?_ | (with_reducible first | refine zO ?_ | refine zP ?_ | refine zG ?_ | refine zI ?_ | refine zH ?_) | refine zQ ?_
  refine yN (α := { p : Nat × List Gr // p.1 ≤ rs.length ∧ p.2 = (rs.take p.1).map ofR }) (fun p => ⟨[.any, .any, .any, .sl 0 0 p.1.2.length, .any, .any, .any, rwL rs, I rs.length, I p.1.1, .any, .any, .any, .any, .any, .any, .any, .any, .any, .any, .any], [gR p.1.2], 0⟩) (fun p => rs.length - p.1.1) ⟨(0, []), Nat.zero_le _, rfl⟩ ?_ ?_
  · exact yv [0] rfl rfl (by decide) (.cons rfl rfl rfl rfl (yH rfl) .nil) (by repeat' first | exact zi | refine zf ?_ ?_ | exact zv | exact le_refl rfl | exact zx rfl rfl | exact zy rfl)
  · rintro ⟨⟨i, t⟩, hi, ht⟩
    simp only at hi ht
    have htl : t.length ≤ 100000000 := by rw [ht]; simp; omega
    repeat' first | refine zM ?_ | refine zC ?_ | refine zR [] ?_ | (refine isA ?_; refine zc rfl ?_) | (refine isL ?_; refine zU rfl (by kernel_rfl) rfl rfl ?_) | (refine zd rfl ?_; refine zT rfl (by kernel_rfl) rfl rfl ?_) | refine zD ?_ | refine zE _ rfl (by kernel_rfl) ?_ | refine zV rfl ?_ | refine zW rfl ?_ | refine zF ?_ | with_reducible refine zL ?_ | refine zJ ?_ | refine zK ?_ | (with_reducible first | refine zO ?_ | refine zP ?_ | refine zG ?_ | refine zI ?_ | refine zH ?_) | refine zQ ?_
    refine zj rfl (fun h => ?_) (fun h => ?_)
    · have hlt : i < rs.length := by simpa using h
      obtain ⟨z, hz⟩ : ∃ z, rs[i]? = some z := ⟨_, List.getElem?_eq_getElem hlt⟩
      repeat' first | (refine isA ?_; refine zg rfl (uE rfl rfl rfl rfl rfl) rfl ?_) | refine zM ?_ | refine zC ?_ | refine zR [] ?_ | (refine isA ?_; refine zc rfl ?_) | (refine isL ?_; refine zU rfl (by kernel_rfl) rfl rfl ?_) | (refine zd rfl ?_; refine zT rfl (by kernel_rfl) rfl rfl ?_) | (refine xI ?_; refine zg rfl (yO (t := rwT) (z := z) rfl rfl rfl rfl (Int.natCast_nonneg i) hz) rfl ?_) | (refine xH rfl ?_; refine zY rfl (by kernel_rfl) rfl (yO (t := rwT) (z := z) rfl rfl rfl rfl (Int.natCast_nonneg i) hz) rfl ?_) | (refine yf 102 ?_; refine zg rfl (zZ rfl (u9 z) (.cons (.same rfl) .nil) rfl) rfl ?_) | (refine ye 102 rfl ?_; refine zY rfl (by kernel_rfl) rfl (zZ rfl (u9 z) (.cons (.same rfl) .nil) rfl) rfl ?_) | (refine uH ?_; refine zg rfl (xW (t := gT) (xs := t) (ys := [ofR z]) rfl rfl rfl rfl (.lst _ _) (by simp; omega) rfl) rfl ?_) | (refine uG rfl ?_; refine zY rfl (by kernel_rfl) rfl (xW (t := gT) (xs := t) (ys := [ofR z]) rfl rfl rfl rfl (.lst _ _) (by simp; omega) rfl) rfl ?_) | refine zD ?_ | refine zE _ rfl (by kernel_rfl) ?_ | refine zV rfl ?_ | refine zW rfl ?_ | refine zF ?_ | with_reducible refine zL ?_ | refine zJ ?_ | refine zK ?_ | (with_reducible first | refine zO ?_ | refine zP ?_ | refine zG ?_ | refine zI ?_ | refine zH ?_) | refine zQ ?_
      refine ⟨⟨(i + 1, t ++ [ofR z]), hlt, by rw [List.take_add_one, hz, ht]; simp⟩, by simp only; omega, ?_⟩
      exact yv [2] rfl rfl (by decide) (.cons rfl rfl rfl rfl (zw (zS _ _)) .nil) (by repeat' first | exact zi | refine zf ?_ ?_ | exact zv | exact le_refl rfl | exact zy rfl | exact zx rfl rfl | exact zx rfl (by simp) | exact xg (by omega) (by omega))
    · have hge : i = rs.length := by
        have : ¬ ((i : Int) < rs.length) := by simpa using h
        omega
      subst hge
      rw [List.take_length] at ht
      subst ht
      repeat' first | refine zM ?_ | refine zC ?_ | refine zR [] ?_ | (refine isA ?_; refine zc rfl ?_) | (refine isL ?_; refine zU rfl (by kernel_rfl) rfl rfl ?_) | (refine zd rfl ?_; refine zT rfl (by kernel_rfl) rfl rfl ?_) | (refine yf 82 ?_; refine zg rfl (ya rfl cm (.cons (va (n := 0) rfl) .nil) (fun q hq => by simp at hq; subst hq; exact zS _ _) rfl rfl) rfl ?_) | (refine ye 82 rfl ?_; refine zY rfl (by kernel_rfl) rfl (ya rfl cm (.cons (va (n := 0) rfl) .nil) (fun q hq => by simp at hq; subst hq; exact zS _ _) rfl rfl) rfl ?_) | exact qg (ty := gT) rfl rfl rfl rfl rfl rfl (vF _) | refine zD ?_ | refine zE _ rfl (by kernel_rfl) ?_ | refine zV rfl ?_ | refine zW rfl ?_ | refine zF ?_ | with_reducible refine zL ?_ | refine zJ ?_ | refine zK ?_ | (with_reducible first | refine zO ?_ | refine zP ?_ | refine zG ?_ | refine zI ?_ | refine zH ?_) | refine zQ ?_
end Go.Proofs.Ytkcicbigpbdjpaa.Ab.Gq
namespace Go.Proofs.Ytkcicbigpbdjpaa.Ab
open Go.RowKit
theorem px {n : Nat} {l : Int} (hn : n ≤ 9223372036854775807) (h0 : 0 ≤ l) (h1 : l ≤ 1048576) (h : decide (szL n l < 0) = false) : (n : Int) ≤ l ∧ szL n l = l - n := by
  have e : IntKind.i64.wrap (l - n) = l - n := by rw [IntKind.wrap_i64]; omega
  unfold szL at h ⊢
  rw [e] at h ⊢
  by_cases hc : l - (n : Int) < 0
  · rw [decide_eq_true hc] at h; cases h
  · rw [show decide (l - (n : Int) < 0) = false from decide_eq_false hc, cond_false]
    exact ⟨by omega, rfl⟩
end Go.Proofs.Ytkcicbigpbdjpaa.Ab
namespace Go.Proofs.Ytkcicbigpbdjpaa.Ab.Gq
open Go.RowKit
theorem pgr {H : List Reg} {h : Nat} {xs : List Gr} (hH : H[h]? = some (gR xs)) : Pur true H (.sl h 0 xs.length) (gL xs) := va (n := 0) hH
def z5 : Gr := ⟨0, 0, 0, 0, 0⟩
theorem wZ (x : Gr) : zp Go.Proofs.Try.prog 148 [.agg (gE x), .agg (gE x)] [] (B true) [] false := by
  refine zu [4] Go.Proofs.Try.func148 rfl rfl ?_
  simp only [Go.Proofs.Try.ntmps148, List.length_cons, List.length_nil, Nat.reduceAdd, Nat.reduceSub, List.replicate_succ, List.replicate_zero, List.cons_append, List.nil_append]
  repeat' first | refine zM ?_ | refine zC ?_ | refine zR [] ?_ | (refine isA ?_; refine zc rfl ?_) | (refine isL ?_; refine zU rfl (by kernel_rfl) rfl rfl ?_) | (refine zd rfl ?_; refine zT rfl (by kernel_rfl) rfl rfl ?_) | refine zj rfl (fun h => by simp at h) (fun _ => ?_) | exact vr rfl rfl rfl | refine zD ?_ | refine zE _ rfl (by kernel_rfl) ?_ | refine zV rfl ?_ | refine zW rfl ?_ | refine zF ?_ | with_reducible refine zL ?_ | refine zJ ?_ | refine zK ?_ | (with_reducible first | refine zO ?_ | refine zP ?_ | refine zG ?_ | refine zI ?_ | refine zH ?_) | refine zQ ?_
theorem yW (xs : List Gr) (hl : xs.length ≤ 1000000000) : zp Go.Proofs.Try.prog 83 [gL xs, gL xs] [] (B true) [] false := by
  refine zu [4] Go.Proofs.Try.func83 rfl rfl ?_
  simp only [Go.Proofs.Try.ntmps83, List.length_cons, List.length_nil, Nat.reduceAdd, Nat.reduceSub, List.replicate_succ, List.replicate_zero, List.cons_append, List.nil_append]
  repeat' first | refine zM ?_ | refine zC ?_ | refine zR [] ?_ | (refine isA ?_; refine zc rfl ?_) | (refine isL ?_; refine zU rfl (by kernel_rfl) rfl rfl ?_) | (refine zd rfl ?_; refine zT rfl (by kernel_rfl) rfl rfl ?_) | refine zD ?_ | refine zE _ rfl (by kernel_rfl) ?_ | refine zV rfl ?_ | refine zW rfl ?_ | refine zF ?_ | with_reducible refine zL ?_ | refine zJ ?_ | refine zK ?_ | (with_reducible first | refine zO ?_ | refine zP ?_ | refine zG ?_ | refine zI ?_ | refine zH ?_) | refine zQ ?_
  refine zj rfl (fun h => by simp at h) (fun _ => ?_)
  repeat' first | refine zM ?_ | refine zC ?_ | refine zR [] ?_ | (refine isA ?_; refine zc rfl ?_) | (refine isL ?_; refine zU rfl (by kernel_rfl) rfl rfl ?_) | (refine zd rfl ?_; refine zT rfl (by kernel_rfl) rfl rfl ?_) | refine zD ?_ | refine zE _ rfl (by kernel_rfl) ?_ | refine zV rfl ?_ | refine zW rfl ?_ | refine zF ?_ | with_reducible refine zL ?_ | refine zJ ?_ | refine zK ?_ | (with_reducible first | refine zO ?_ | refine zP ?_ | refine zG ?_ | refine zI ?_ | refine zH ?_) | refine zQ ?_
  refine yN (α := { i : Nat // i ≤ xs.length }) (fun i => ⟨[gL xs, gL xs, .any, .any, .any, I i.1, .any, .any, .any, .any, .any, .any, .any, .any, .any, .any, .any, .any, .any, .any, .any, .any, .any, .any, .any, .any, .any], [], 0⟩) (fun i => xs.length - i.1) ⟨0, Nat.zero_le _⟩ ?_ ?_
  · exact yv [] rfl rfl (by decide) .nil (by repeat' first | exact zi | refine zf ?_ ?_ | exact zv | exact le_refl rfl | exact zx rfl rfl | exact zy rfl)
  · rintro ⟨i, hi⟩
    repeat' first | refine zM ?_ | refine zC ?_ | refine zR [] ?_ | (refine isA ?_; refine zc rfl ?_) | (refine isL ?_; refine zU rfl (by kernel_rfl) rfl rfl ?_) | (refine zd rfl ?_; refine zT rfl (by kernel_rfl) rfl rfl ?_) | refine zD ?_ | refine zE _ rfl (by kernel_rfl) ?_ | refine zV rfl ?_ | refine zW rfl ?_ | refine zF ?_ | with_reducible refine zL ?_ | refine zJ ?_ | refine zK ?_ | (with_reducible first | refine zO ?_ | refine zP ?_ | refine zG ?_ | refine zI ?_ | refine zH ?_) | refine zQ ?_
    refine zj rfl (fun h => ?_) (fun h => ?_)
    · have hlt : i < xs.length := by simpa using h
      obtain ⟨z, hz⟩ : ∃ z, xs[i]? = some z := ⟨_, List.getElem?_eq_getElem hlt⟩
      repeat' first | refine zM ?_ | refine zC ?_ | refine zR [] ?_ | (refine isA ?_; refine zc rfl ?_) | (refine isL ?_; refine zU rfl (by kernel_rfl) rfl rfl ?_) | (refine zd rfl ?_; refine zT rfl (by kernel_rfl) rfl rfl ?_) | refine zg rfl (yO (z := z) rfl rfl rfl rfl (Int.natCast_nonneg _) hz) rfl ?_ | refine zY rfl (by kernel_rfl) rfl (yO (z := z) rfl rfl rfl rfl (Int.natCast_nonneg _) hz) rfl ?_ | refine zg rfl (zZ rfl (wZ _) (.cons (.same rfl) (.cons (.same rfl) .nil)) rfl) rfl ?_ | refine zY rfl (by kernel_rfl) rfl (zZ rfl (wZ _) (.cons (.same rfl) (.cons (.same rfl) .nil)) rfl) rfl ?_ | refine zD ?_ | refine zE _ rfl (by kernel_rfl) ?_ | refine zV rfl ?_ | refine zW rfl ?_ | refine zF ?_ | with_reducible refine zL ?_ | refine zJ ?_ | refine zK ?_ | (with_reducible first | refine zO ?_ | refine zP ?_ | refine zG ?_ | refine zI ?_ | refine zH ?_) | refine zQ ?_
      refine ⟨⟨i + 1, hlt⟩, by simp only; omega, ?_⟩
      exact yv [] rfl rfl (by decide) .nil (by repeat' first | exact zi | refine zf ?_ ?_ | exact zv | exact le_refl rfl | exact zx rfl rfl | exact zy rfl | exact xg (by assumption) (by omega))
    · repeat' first | refine zM ?_ | refine zC ?_ | refine zR [] ?_ | (refine isA ?_; refine zc rfl ?_) | (refine isL ?_; refine zU rfl (by kernel_rfl) rfl rfl ?_) | (refine zd rfl ?_; refine zT rfl (by kernel_rfl) rfl rfl ?_) | exact vr rfl rfl rfl | refine zD ?_ | refine zE _ rfl (by kernel_rfl) ?_ | refine zV rfl ?_ | refine zW rfl ?_ | refine zF ?_ | with_reducible refine zL ?_ | refine zJ ?_ | refine zK ?_ | (with_reducible first | refine zO ?_ | refine zP ?_ | refine zG ?_ | refine zI ?_ | refine zH ?_) | refine zQ ?_
def mkG (k : Int) (j : Nat) : Gr := ⟨kk k (5 * j), kk k (5 * j + 1), kk k (5 * j + 2), kk k (5 * j + 3), kk k (5 * j + 4)⟩
def mkC (k : Int) (xs : List Gr) (i : Nat) : List Gr := (List.range i).map (mkG k) ++ xs.drop i
theorem xS (k : Int) {xs : List Gr} {i : Nat} (h : i ≤ xs.length) : (mkC k xs i).length = xs.length := by simp [mkC]; omega
theorem xu (xs : List Gr) (k : Int) (hl : xs.length ≤ 1000000000) : zp Go.Proofs.Try.prog 84 [.sl 0 0 xs.length, I k] [gR xs] (I (kk k (5 * xs.length))) [gR (mkC k xs xs.length)] true := by
  refine zu [4] Go.Proofs.Try.func84 rfl rfl ?_
  simp only [Go.Proofs.Try.ntmps84, List.length_cons, List.length_nil, Nat.reduceAdd, Nat.reduceSub, List.replicate_succ, List.replicate_zero, List.cons_append, List.nil_append]
  repeat' first | refine zM ?_ | refine zC ?_ | refine zR [] ?_ | (refine isA ?_; refine zc rfl ?_) | (refine isL ?_; refine zU rfl (by kernel_rfl) rfl rfl ?_) | (refine zd rfl ?_; refine zT rfl (by kernel_rfl) rfl rfl ?_) | refine zD ?_ | refine zE _ rfl (by kernel_rfl) ?_ | refine zV rfl ?_ | refine zW rfl ?_ | refine zF ?_ | with_reducible refine zL ?_ | refine zJ ?_ | refine zK ?_ | (with_reducible first | refine zO ?_ | refine zP ?_ | refine zG ?_ | refine zI ?_ | refine zH ?_) | refine zQ ?_
  refine yN (α := { i : Nat // i ≤ xs.length }) (fun i => ⟨[.sl 0 0 xs.length, I (kk k (5 * i.1)), .any, .any, .any, I i.1, .any, .any, .any, .any, .any, .any, .any, .any, .any, .any, .any, .any, .any, .any, .any, .any, .any, .any, .any, .any, .any, .any, .any, .any, .any, .any, .any, .any, .any, .any, .any, .any, .any, .any, .any, .any, .any, .any, .any, .any, .any, .any], [gR (mkC k xs i.1)], 1⟩) (fun i => xs.length - i.1) ⟨0, Nat.zero_le _⟩ ?_ ?_
  · exact qN 1 [0] rfl rfl vG (by decide) (.cons rfl rfl rfl rfl (zw (zS _ _)) .nil) (by repeat' first | exact zi | refine zf ?_ ?_ | exact zv | exact le_refl rfl | exact zx rfl rfl | exact zy rfl)
  · rintro ⟨i, hi⟩
    have hgl := xS k hi
    repeat' first | refine zM ?_ | refine zC ?_ | refine zR [] ?_ | (refine isA ?_; refine zc rfl ?_) | (refine isL ?_; refine zU rfl (by kernel_rfl) rfl rfl ?_) | (refine zd rfl ?_; refine zT rfl (by kernel_rfl) rfl rfl ?_) | refine zD ?_ | refine zE _ rfl (by kernel_rfl) ?_ | refine zV rfl ?_ | refine zW rfl ?_ | refine zF ?_ | with_reducible refine zL ?_ | refine zJ ?_ | refine zK ?_ | (with_reducible first | refine zO ?_ | refine zP ?_ | refine zG ?_ | refine zI ?_ | refine zH ?_) | refine zQ ?_
    refine zj rfl (fun h => ?_) (fun h => ?_)
    · have hlt : i < xs.length := by simpa using h
      obtain ⟨z, hz⟩ : ∃ z, (mkC k xs i)[0 + i]? = some z := ⟨_, List.getElem?_eq_getElem (by rw [hgl]; omega)⟩
      have hlt' : 0 + i < (mkC k xs i).length := by rw [hgl]; omega
      have nx : ∀ {ys : List Gr} {y : Gr}, 0 + i < ys.length → (ys.set (0 + i) y)[0 + i]? = some y := fun h => List.getElem?_set_self h
      have hz1 := nx (y := ⟨kk k (5 * i), z.n, z.s, z.lo, z.hi⟩) hlt'
      have hz2 := nx (ys := (mkC k xs i).set (0 + i) ⟨kk k (5 * i), z.n, z.s, z.lo, z.hi⟩) (y := ⟨kk k (5 * i), kk k (5 * i + 1), z.s, z.lo, z.hi⟩) (by rw [List.length_set]; exact hlt')
      have hz3 := nx (ys := ((mkC k xs i).set (0 + i) ⟨kk k (5 * i), z.n, z.s, z.lo, z.hi⟩).set (0 + i) ⟨kk k (5 * i), kk k (5 * i + 1), z.s, z.lo, z.hi⟩) (y := ⟨kk k (5 * i), kk k (5 * i + 1), kk k (5 * i + 2), z.lo, z.hi⟩) (by rw [List.length_set, List.length_set]; exact hlt')
      have hz4 := nx (ys := (((mkC k xs i).set (0 + i) ⟨kk k (5 * i), z.n, z.s, z.lo, z.hi⟩).set (0 + i) ⟨kk k (5 * i), kk k (5 * i + 1), z.s, z.lo, z.hi⟩).set (0 + i) ⟨kk k (5 * i), kk k (5 * i + 1), kk k (5 * i + 2), z.lo, z.hi⟩) (y := ⟨kk k (5 * i), kk k (5 * i + 1), kk k (5 * i + 2), kk k (5 * i + 3), z.hi⟩) (by rw [List.length_set, List.length_set, List.length_set]; exact hlt')
      repeat' first | refine zM ?_ | refine zC ?_ | refine zR [] ?_ | (refine isA ?_; refine zc rfl ?_) | (refine isL ?_; refine zU rfl (by kernel_rfl) rfl rfl ?_) | (refine zd rfl ?_; refine zT rfl (by kernel_rfl) rfl rfl ?_) | (refine xI ?_; refine zg rfl (yD (j := i) rfl rfl rfl (Nat.zero_le _) rfl rfl (Int.natCast_nonneg i) (by omega)) rfl ?_) | (refine xH rfl ?_; refine zY rfl (by kernel_rfl) rfl (yD (j := i) rfl rfl rfl (Nat.zero_le _) rfl rfl (Int.natCast_nonneg i) (by omega)) rfl ?_) | (refine vh (x := .tmp 16) ?_; refine zg rfl (yl (T := gT) (i := 0 + i) (off := 0) (z := z) (z' := ⟨kk k (5 * i), z.n, z.s, z.lo, z.hi⟩) rfl rfl rfl rfl (by decide) rfl hz rfl) rfl ?_) | (refine wi (x := .tmp 16) rfl ?_; refine zY rfl (by kernel_rfl) rfl (yl (T := gT) (i := 0 + i) (off := 0) (z := z) (z' := ⟨kk k (5 * i), z.n, z.s, z.lo, z.hi⟩) rfl rfl rfl rfl (by decide) rfl hz rfl) rfl ?_) | (refine vh (x := .tmp 23) ?_; refine zg rfl (yl (T := gT) (i := 0 + i) (off := 1) (z := ⟨kk k (5 * i), z.n, z.s, z.lo, z.hi⟩) (z' := ⟨kk k (5 * i), kk k (5 * i + 1), z.s, z.lo, z.hi⟩) rfl rfl rfl rfl (by decide) rfl hz1 rfl) rfl ?_) | (refine wi (x := .tmp 23) rfl ?_; refine zY rfl (by kernel_rfl) rfl (yl (T := gT) (i := 0 + i) (off := 1) (z := ⟨kk k (5 * i), z.n, z.s, z.lo, z.hi⟩) (z' := ⟨kk k (5 * i), kk k (5 * i + 1), z.s, z.lo, z.hi⟩) rfl rfl rfl rfl (by decide) rfl hz1 rfl) rfl ?_) | (refine vh (x := .tmp 30) ?_; refine zg rfl (yl (T := gT) (i := 0 + i) (off := 2) (z := ⟨kk k (5 * i), kk k (5 * i + 1), z.s, z.lo, z.hi⟩) (z' := ⟨kk k (5 * i), kk k (5 * i + 1), kk k (5 * i + 2), z.lo, z.hi⟩) rfl rfl rfl rfl (by decide) rfl hz2 rfl) rfl ?_) | (refine wi (x := .tmp 30) rfl ?_; refine zY rfl (by kernel_rfl) rfl (yl (T := gT) (i := 0 + i) (off := 2) (z := ⟨kk k (5 * i), kk k (5 * i + 1), z.s, z.lo, z.hi⟩) (z' := ⟨kk k (5 * i), kk k (5 * i + 1), kk k (5 * i + 2), z.lo, z.hi⟩) rfl rfl rfl rfl (by decide) rfl hz2 rfl) rfl ?_) | (refine vh (x := .tmp 37) ?_; refine zg rfl (yl (T := gT) (i := 0 + i) (off := 3) (z := ⟨kk k (5 * i), kk k (5 * i + 1), kk k (5 * i + 2), z.lo, z.hi⟩) (z' := ⟨kk k (5 * i), kk k (5 * i + 1), kk k (5 * i + 2), kk k (5 * i + 3), z.hi⟩) rfl rfl rfl rfl (by decide) rfl hz3 rfl) rfl ?_) | (refine wi (x := .tmp 37) rfl ?_; refine zY rfl (by kernel_rfl) rfl (yl (T := gT) (i := 0 + i) (off := 3) (z := ⟨kk k (5 * i), kk k (5 * i + 1), kk k (5 * i + 2), z.lo, z.hi⟩) (z' := ⟨kk k (5 * i), kk k (5 * i + 1), kk k (5 * i + 2), kk k (5 * i + 3), z.hi⟩) rfl rfl rfl rfl (by decide) rfl hz3 rfl) rfl ?_) | (refine vh (x := .tmp 44) ?_; refine zg rfl (yl (T := gT) (i := 0 + i) (off := 4) (z := ⟨kk k (5 * i), kk k (5 * i + 1), kk k (5 * i + 2), kk k (5 * i + 3), z.hi⟩) (z' := mkG k i) rfl rfl rfl rfl (by decide) rfl hz4 rfl) rfl ?_) | (refine wi (x := .tmp 44) rfl ?_; refine zY rfl (by kernel_rfl) rfl (yl (T := gT) (i := 0 + i) (off := 4) (z := ⟨kk k (5 * i), kk k (5 * i + 1), kk k (5 * i + 2), kk k (5 * i + 3), z.hi⟩) (z' := mkG k i) rfl rfl rfl rfl (by decide) rfl hz4 rfl) rfl ?_) | refine zD ?_ | refine zE _ rfl (by kernel_rfl) ?_ | refine zV rfl ?_ | refine zW rfl ?_ | refine zF ?_ | with_reducible refine zL ?_ | refine zJ ?_ | refine zK ?_ | (with_reducible first | refine zO ?_ | refine zP ?_ | refine zG ?_ | refine zI ?_ | refine zH ?_) | refine zQ ?_
      refine ⟨⟨i + 1, hlt⟩, by simp only; omega, ?_⟩
      exact qN 1 [0] rfl rfl vG (by decide) (.cons rfl rfl rfl rfl (xf (by rw [Nat.zero_add]; show gT.flat (((((List.set _ i _).set i _).set i _).set i _).set i _) = _; rw [List.set_set, List.set_set, List.set_set, List.set_set]; exact congrArg gT.flat (ua (g := mkG k) hlt)) (zS _ _)) .nil) (by repeat' first | exact zi | refine zf ?_ ?_ | exact zv | exact le_refl rfl | exact zx rfl rfl | exact zy rfl | exact xg (by assumption) (by omega))
    · have hge : i = xs.length := by
        have : ¬ ((i : Int) < xs.length) := by simpa using h
        omega
      subst hge
      repeat' first | refine zM ?_ | refine zC ?_ | refine zR [] ?_ | (refine isA ?_; refine zc rfl ?_) | (refine isL ?_; refine zU rfl (by kernel_rfl) rfl rfl ?_) | (refine zd rfl ?_; refine zT rfl (by kernel_rfl) rfl rfl ?_) | exact nH 1 [0] vG (by decide) rfl (le_refl rfl) (.cons rfl rfl rfl rfl (zw (zS _ _)) .nil) | refine zD ?_ | refine zE _ rfl (by kernel_rfl) ?_ | refine zV rfl ?_ | refine zW rfl ?_ | refine zF ?_ | with_reducible refine zL ?_ | refine zJ ?_ | refine zK ?_ | (with_reducible first | refine zO ?_ | refine zP ?_ | refine zG ?_ | refine zI ?_ | refine zH ?_) | refine zQ ?_
theorem sR {k : Int} {xs : List Gr} : ∀ (i : Nat) (x : Gr), (mkC k xs xs.length)[i]? = some x → x = mkG k i := fun i x h => by
  unfold mkC at h
  rw [List.drop_length, List.append_nil, List.getElem?_map] at h
  cases hi : (List.range xs.length)[i]? with
  | none => rw [hi] at h; cases h
  | some j =>
    rw [hi] at h
    have hj : j = i := by
      obtain ⟨q, e⟩ := List.getElem?_eq_some_iff.1 hi
      simpa using e.symm
    subst hj
    simpa using h.symm
theorem vJ (xs : List Gr) (k : Int) (hl : xs.length ≤ 1000000000) (hk : ∀ i z, xs[i]? = some z → z = mkG k i) : zp Go.Proofs.Try.prog 85 [gL xs, I k] [] (I (kk k (5 * xs.length))) [] false := by
  refine zu [4] Go.Proofs.Try.func85 rfl rfl ?_
  simp only [Go.Proofs.Try.ntmps85, List.length_cons, List.length_nil, Nat.reduceAdd, Nat.reduceSub, List.replicate_succ, List.replicate_zero, List.cons_append, List.nil_append]
  repeat' first | refine zM ?_ | refine zC ?_ | refine zR [] ?_ | (refine isA ?_; refine zc rfl ?_) | (refine isL ?_; refine zU rfl (by kernel_rfl) rfl rfl ?_) | (refine zd rfl ?_; refine zT rfl (by kernel_rfl) rfl rfl ?_) | refine zD ?_ | refine zE _ rfl (by kernel_rfl) ?_ | refine zV rfl ?_ | refine zW rfl ?_ | refine zF ?_ | with_reducible refine zL ?_ | refine zJ ?_ | refine zK ?_ | (with_reducible first | refine zO ?_ | refine zP ?_ | refine zG ?_ | refine zI ?_ | refine zH ?_) | refine zQ ?_
  refine yN (α := { i : Nat // i ≤ xs.length }) (fun i => ⟨[gL xs, I (kk k (5 * i.1)), .any, .any, .any, I i.1, .any, .any, .any, .any, .any, .any, .any, .any, .any, .any, .any, .any, .any, .any, .any, .any, .any, .any, .any, .any, .any, .any, .any, .any, .any, .any, .any, .any, .any, .any, .any, .any, .any, .any, .any, .any, .any, .any, .any, .any, .any, .any, .any, .any, .any, .any, .any, .any, .any, .any, .any, .any], [], 0⟩) (fun i => xs.length - i.1) ⟨0, Nat.zero_le _⟩ ?_ ?_
  · exact yv [] rfl rfl (by decide) .nil (by repeat' first | exact zi | refine zf ?_ ?_ | exact zv | exact le_refl rfl | exact zx rfl rfl | exact zy rfl)
  · rintro ⟨i, hi⟩
    repeat' first | refine zM ?_ | refine zC ?_ | refine zR [] ?_ | (refine isA ?_; refine zc rfl ?_) | (refine isL ?_; refine zU rfl (by kernel_rfl) rfl rfl ?_) | (refine zd rfl ?_; refine zT rfl (by kernel_rfl) rfl rfl ?_) | refine zD ?_ | refine zE _ rfl (by kernel_rfl) ?_ | refine zV rfl ?_ | refine zW rfl ?_ | refine zF ?_ | with_reducible refine zL ?_ | refine zJ ?_ | refine zK ?_ | (with_reducible first | refine zO ?_ | refine zP ?_ | refine zG ?_ | refine zI ?_ | refine zH ?_) | refine zQ ?_
    refine zj rfl (fun h => ?_) (fun h => ?_)
    · have hlt : i < xs.length := by simpa using h
      obtain ⟨z, hz⟩ : ∃ z, xs[i]? = some z := ⟨_, List.getElem?_eq_getElem hlt⟩
      have hzk := hk i z hz
      subst hzk
      repeat' first | refine zM ?_ | refine zC ?_ | refine zR [] ?_ | (refine isA ?_; refine zc rfl ?_) | (refine isL ?_; refine zU rfl (by kernel_rfl) rfl rfl ?_) | (refine zd rfl ?_; refine zT rfl (by kernel_rfl) rfl rfl ?_) | (refine xI ?_; refine zg rfl (yO (t := gT) (z := mkG k i) rfl rfl rfl rfl (Int.natCast_nonneg i) hz) rfl ?_) | (refine xH rfl ?_; refine zY rfl (by kernel_rfl) rfl (yO (t := gT) (z := mkG k i) rfl rfl rfl rfl (Int.natCast_nonneg i) hz) rfl ?_) | refine zD ?_ | refine zE _ rfl (by kernel_rfl) ?_ | refine zV rfl ?_ | refine zW rfl ?_ | refine zF ?_ | with_reducible refine zL ?_ | refine zJ ?_ | refine zK ?_ | (with_reducible first | refine zO ?_ | refine zP ?_ | refine zG ?_ | refine zI ?_ | refine zH ?_) | refine zQ ?_
      refine zj rfl (fun h => by simp [mkG] at h) (fun _ => ?_)
      repeat' first | refine zM ?_ | refine zC ?_ | refine zR [] ?_ | (refine isA ?_; refine zc rfl ?_) | (refine isL ?_; refine zU rfl (by kernel_rfl) rfl rfl ?_) | (refine zd rfl ?_; refine zT rfl (by kernel_rfl) rfl rfl ?_) | (refine xI ?_; refine zg rfl (yO (t := gT) (z := mkG k i) rfl rfl rfl rfl (Int.natCast_nonneg i) hz) rfl ?_) | (refine xH rfl ?_; refine zY rfl (by kernel_rfl) rfl (yO (t := gT) (z := mkG k i) rfl rfl rfl rfl (Int.natCast_nonneg i) hz) rfl ?_) | refine zD ?_ | refine zE _ rfl (by kernel_rfl) ?_ | refine zV rfl ?_ | refine zW rfl ?_ | refine zF ?_ | with_reducible refine zL ?_ | refine zJ ?_ | refine zK ?_ | (with_reducible first | refine zO ?_ | refine zP ?_ | refine zG ?_ | refine zI ?_ | refine zH ?_) | refine zQ ?_
      refine zj rfl (fun h => by simp [mkG, kk] at h) (fun _ => ?_)
      repeat' first | refine zM ?_ | refine zC ?_ | refine zR [] ?_ | (refine isA ?_; refine zc rfl ?_) | (refine isL ?_; refine zU rfl (by kernel_rfl) rfl rfl ?_) | (refine zd rfl ?_; refine zT rfl (by kernel_rfl) rfl rfl ?_) | (refine xI ?_; refine zg rfl (yO (t := gT) (z := mkG k i) rfl rfl rfl rfl (Int.natCast_nonneg i) hz) rfl ?_) | (refine xH rfl ?_; refine zY rfl (by kernel_rfl) rfl (yO (t := gT) (z := mkG k i) rfl rfl rfl rfl (Int.natCast_nonneg i) hz) rfl ?_) | refine zD ?_ | refine zE _ rfl (by kernel_rfl) ?_ | refine zV rfl ?_ | refine zW rfl ?_ | refine zF ?_ | with_reducible refine zL ?_ | refine zJ ?_ | refine zK ?_ | (with_reducible first | refine zO ?_ | refine zP ?_ | refine zG ?_ | refine zI ?_ | refine zH ?_) | refine zQ ?_
      refine zj rfl (fun h => by simp [mkG, kk] at h) (fun _ => ?_)
      repeat' first | refine zM ?_ | refine zC ?_ | refine zR [] ?_ | (refine isA ?_; refine zc rfl ?_) | (refine isL ?_; refine zU rfl (by kernel_rfl) rfl rfl ?_) | (refine zd rfl ?_; refine zT rfl (by kernel_rfl) rfl rfl ?_) | (refine xI ?_; refine zg rfl (yO (t := gT) (z := mkG k i) rfl rfl rfl rfl (Int.natCast_nonneg i) hz) rfl ?_) | (refine xH rfl ?_; refine zY rfl (by kernel_rfl) rfl (yO (t := gT) (z := mkG k i) rfl rfl rfl rfl (Int.natCast_nonneg i) hz) rfl ?_) | refine zD ?_ | refine zE _ rfl (by kernel_rfl) ?_ | refine zV rfl ?_ | refine zW rfl ?_ | refine zF ?_ | with_reducible refine zL ?_ | refine zJ ?_ | refine zK ?_ | (with_reducible first | refine zO ?_ | refine zP ?_ | refine zG ?_ | refine zI ?_ | refine zH ?_) | refine zQ ?_
      refine zj rfl (fun h => by simp [mkG, kk] at h) (fun _ => ?_)
      repeat' first | refine zM ?_ | refine zC ?_ | refine zR [] ?_ | (refine isA ?_; refine zc rfl ?_) | (refine isL ?_; refine zU rfl (by kernel_rfl) rfl rfl ?_) | (refine zd rfl ?_; refine zT rfl (by kernel_rfl) rfl rfl ?_) | (refine xI ?_; refine zg rfl (yO (t := gT) (z := mkG k i) rfl rfl rfl rfl (Int.natCast_nonneg i) hz) rfl ?_) | (refine xH rfl ?_; refine zY rfl (by kernel_rfl) rfl (yO (t := gT) (z := mkG k i) rfl rfl rfl rfl (Int.natCast_nonneg i) hz) rfl ?_) | refine zD ?_ | refine zE _ rfl (by kernel_rfl) ?_ | refine zV rfl ?_ | refine zW rfl ?_ | refine zF ?_ | with_reducible refine zL ?_ | refine zJ ?_ | refine zK ?_ | (with_reducible first | refine zO ?_ | refine zP ?_ | refine zG ?_ | refine zI ?_ | refine zH ?_) | refine zQ ?_
      refine zj rfl (fun h => by simp [mkG, kk] at h) (fun _ => ?_)
      repeat' first | refine zM ?_ | refine zC ?_ | refine zR [] ?_ | (refine isA ?_; refine zc rfl ?_) | (refine isL ?_; refine zU rfl (by kernel_rfl) rfl rfl ?_) | (refine zd rfl ?_; refine zT rfl (by kernel_rfl) rfl rfl ?_) | refine zD ?_ | refine zE _ rfl (by kernel_rfl) ?_ | refine zV rfl ?_ | refine zW rfl ?_ | refine zF ?_ | with_reducible refine zL ?_ | refine zJ ?_ | refine zK ?_ | (with_reducible first | refine zO ?_ | refine zP ?_ | refine zG ?_ | refine zI ?_ | refine zH ?_) | refine zQ ?_
      refine ⟨⟨i + 1, hlt⟩, by simp only; omega, ?_⟩
      exact yv [] rfl rfl (by decide) .nil (by repeat' first | exact zi | refine zf ?_ ?_ | exact zv | exact le_refl rfl | exact zx rfl rfl | exact zy rfl | exact xg (by assumption) (by omega))
    · have hge : i = xs.length := by
        have : ¬ ((i : Int) < xs.length) := by simpa using h
        omega
      subst hge
      repeat' first | refine zM ?_ | refine zC ?_ | refine zR [] ?_ | (refine isA ?_; refine zc rfl ?_) | (refine isL ?_; refine zU rfl (by kernel_rfl) rfl rfl ?_) | (refine zd rfl ?_; refine zT rfl (by kernel_rfl) rfl rfl ?_) | exact vr rfl rfl rfl | refine zD ?_ | refine zE _ rfl (by kernel_rfl) ?_ | refine zV rfl ?_ | refine zW rfl ?_ | refine zF ?_ | with_reducible refine zL ?_ | refine zJ ?_ | refine zK ?_ | (with_reducible first | refine zO ?_ | refine zP ?_ | refine zG ?_ | refine zI ?_ | refine zH ?_) | refine zQ ?_
end Go.Proofs.Ytkcicbigpbdjpaa.Ab.Gq
namespace Go.Proofs.Ytkcicbigpbdjpaa.Ab.Gq
open Go.RowKit
theorem wJ (g : List Gr) (hl : g.length ≤ 1000000000) : zp Go.Proofs.Try.prog 85 [gL (mkC 1 g g.length), I 1] [] (I (kk 1 (5 * g.length))) [] false := by
  have := vJ (mkC 1 g g.length) 1 (by rw [xS 1 (Nat.le_refl _)]; exact hl) (fun i z hz => sR i z hz)
  rwa [xS 1 (Nat.le_refl _)] at this
theorem pmk {H : List Reg} {h : Nat} {g : List Gr} (hH : H[h]? = some (gR (mkC 1 g g.length))) : Pur true H (.sl h 0 g.length) (gL (mkC 1 g g.length)) := by
  have := pgr hH
  rwa [xS 1 (Nat.le_refl _)] at this
end Go.Proofs.Ytkcicbigpbdjpaa.Ab.Gq
namespace Go.Proofs.Ytkcicbigpbdjpaa.Ab.Gq
open Go.RowKit
theorem law_ReferenceGroups (gs : List Rw) (hl0 : gs.length ≤ 9223372036854775807) : zp Go.Proofs.Try.prog 13 [rwL gs] [] (B true) [] false := by
  refine zu [2] Go.Proofs.Try.func13 rfl rfl ?_
  simp only [Go.Proofs.Try.ntmps13, List.length_cons, List.length_nil, Nat.reduceAdd, Nat.reduceSub, List.replicate_succ, List.replicate_zero, List.cons_append, List.nil_append]
  repeat' first | refine zM ?_ | refine zC ?_ | refine zR [] ?_ | (refine isA ?_; refine zc rfl ?_) | (refine isL ?_; refine zU rfl (by kernel_rfl) rfl rfl ?_) | (refine zd rfl ?_; refine zT rfl (by kernel_rfl) rfl rfl ?_) | (refine yf 33 ?_; refine zg rfl (zZ rfl (vv gs _) (.cons (.same rfl) (.cons (.same rfl) .nil)) rfl) rfl ?_) | (refine ye 33 rfl ?_; refine zY rfl (by kernel_rfl) rfl (zZ rfl (vv gs _) (.cons (.same rfl) (.cons (.same rfl) .nil)) rfl) rfl ?_) | refine zD ?_ | refine zE _ rfl (by kernel_rfl) ?_ | refine zV rfl ?_ | refine zW rfl ?_ | refine zF ?_ | with_reducible refine zL ?_ | refine zJ ?_ | refine zK ?_ | (with_reducible first | refine zO ?_ | refine zP ?_ | refine zG ?_ | refine zI ?_ | refine zH ?_) | refine zQ ?_
  refine zj rfl (fun h => ?_) (fun h => ?_)
  · repeat' first | refine zM ?_ | refine zC ?_ | refine zR [] ?_ | (refine isA ?_; refine zc rfl ?_) | (refine isL ?_; refine zU rfl (by kernel_rfl) rfl rfl ?_) | (refine zd rfl ?_; refine zT rfl (by kernel_rfl) rfl rfl ?_) | exact vr rfl rfl rfl | refine zD ?_ | refine zE _ rfl (by kernel_rfl) ?_ | refine zV rfl ?_ | refine zW rfl ?_ | refine zF ?_ | with_reducible refine zL ?_ | refine zJ ?_ | refine zK ?_ | (with_reducible first | refine zO ?_ | refine zP ?_ | refine zG ?_ | refine zI ?_ | refine zH ?_) | refine zQ ?_
  obtain ⟨hl1, _⟩ := px hl0 (by decide) (by decide) h
  have hl : gs.length ≤ 1048576 := by omega
  have c0 := nK gs (by omega)
  have c1 := nJ gs (by omega)
  have hgl := qQ gs
  generalize tU gs = g at c0 c1 hgl
  have hneg : decide (kk 1 (3 * gs.length) < 0) = false := sW (by omega) (by omega) (by omega)
  have hnegg : decide (kk 1 (5 * g.length) < 0) = false := sW (by omega) (by omega) (by omega)
  repeat' first | refine zM ?_ | refine zC ?_ | refine zR [] ?_ | (refine isA ?_; refine zc rfl ?_) | (refine isL ?_; refine zU rfl (by kernel_rfl) rfl rfl ?_) | (refine zd rfl ?_; refine zT rfl (by kernel_rfl) rfl rfl ?_) | (refine yf 34 (x := #[.tmp 16]) ?_; refine zg rfl (zZ rfl (y0 gs (by omega)) (.cons (.same rfl) .nil) rfl) rfl ?_) | (refine ye 34 (x := #[.tmp 16]) rfl ?_; refine zY rfl (by kernel_rfl) rfl (zZ rfl (y0 gs (by omega)) (.cons (.same rfl) .nil) rfl) rfl ?_) | (refine yf 86 ?_; refine zg rfl (zZ rfl (c1.frozen (pgr rfl)) (.cons (.same rfl) .nil) rfl) rfl ?_) | (refine ye 86 rfl ?_; refine zY rfl (by kernel_rfl) rfl (zZ rfl (c1.frozen (pgr rfl)) (.cons (.same rfl) .nil) rfl) rfl ?_) | (refine yf 34 (x := #[.tmp 19]) ?_; refine zg rfl (ya rfl (wv gs (by omega)) (.cons (.same rfl) .nil) (fun q hq => by simp at hq; subst hq; exact zS _ _) rfl rfl) rfl ?_) | (refine ye 34 (x := #[.tmp 19]) rfl ?_; refine zY rfl (by kernel_rfl) rfl (ya rfl (wv gs (by omega)) (.cons (.same rfl) .nil) (fun q hq => by simp at hq; subst hq; exact zS _ _) rfl rfl) rfl ?_) | (refine yf 87 (x := #[.tmp 21]) ?_; refine zg rfl (ya rfl c0 (.cons (wG rfl) .nil) (fun q hq => by simp at hq; subst hq; exact zS _ _) rfl rfl) rfl ?_) | (refine ye 87 (x := #[.tmp 21]) rfl ?_; refine zY rfl (by kernel_rfl) rfl (ya rfl c0 (.cons (wG rfl) .nil) (fun q hq => by simp at hq; subst hq; exact zS _ _) rfl rfl) rfl ?_) | (refine yf 83 (x := #[.tmp 23, .tmp 24]) ?_; refine zg rfl (zZ rfl (yW g (by omega)) (.cons (pgr rfl) (.cons (.same rfl) .nil)) rfl) rfl ?_) | (refine ye 83 (x := #[.tmp 23, .tmp 24]) rfl ?_; refine zY rfl (by kernel_rfl) rfl (zZ rfl (yW g (by omega)) (.cons (pgr rfl) (.cons (.same rfl) .nil)) rfl) rfl ?_) | (refine yf 34 (x := #[.tmp 28]) ?_; refine zg rfl (zZ rfl (y0 gs (by omega)) (.cons (.same rfl) .nil) rfl) rfl ?_) | (refine ye 34 (x := #[.tmp 28]) rfl ?_; refine zY rfl (by kernel_rfl) rfl (zZ rfl (y0 gs (by omega)) (.cons (.same rfl) .nil) rfl) rfl ?_) | (refine yf 36 (x := #[.tmp 27, .tmp 29]) ?_; refine zg rfl (zZ rfl (vw gs (by omega)) (.cons (wG rfl) (.cons (.same rfl) .nil)) rfl) rfl ?_) | (refine ye 36 (x := #[.tmp 27, .tmp 29]) rfl ?_; refine zY rfl (by kernel_rfl) rfl (zZ rfl (vw gs (by omega)) (.cons (wG rfl) (.cons (.same rfl) .nil)) rfl) rfl ?_) | (refine yf 37 (x := #[.tmp 32, .tmp 33]) ?_; refine zg rfl (zz (K := []) (Rs' := [_]) [0] (by decide) rfl (wY gs 1 (by omega)) (.cons rfl rfl rfl (zS _ _) (zS _ _) .nil) (.cons (.sl rfl) (.cons (.same rfl) .nil)) (fun q hq => by cases hq) rfl) rfl ?_) | (refine ye 37 (x := #[.tmp 32, .tmp 33]) rfl ?_; refine zY rfl (by kernel_rfl) rfl (zz (K := []) (Rs' := [_]) [0] (by decide) rfl (wY gs 1 (by omega)) (.cons rfl rfl rfl (zS _ _) (zS _ _) .nil) (.cons (.sl rfl) (.cons (.same rfl) .nil)) (fun q hq => by cases hq) rfl) rfl ?_) | refine zD ?_ | refine zE _ rfl (by kernel_rfl) ?_ | refine zV rfl ?_ | refine zW rfl ?_ | refine zF ?_ | with_reducible refine zL ?_ | refine zJ ?_ | refine zK ?_ | (with_reducible first | refine zO ?_ | refine zP ?_ | refine zG ?_ | refine zI ?_ | refine zH ?_) | refine zQ ?_
  refine do_br rfl rfl (fun h => by rw [hneg] at h; cases h) (fun _ => ?_)
  repeat' first | refine zM ?_ | refine zC ?_ | refine zR [] ?_ | (refine isA ?_; refine zc rfl ?_) | (refine isL ?_; refine zU rfl (by kernel_rfl) rfl rfl ?_) | (refine zd rfl ?_; refine zT rfl (by kernel_rfl) rfl rfl ?_) | (refine yf 83 (x := #[.tmp 38, .tmp 39]) ?_; refine zg rfl (zZ rfl (yW g (by omega)) (.cons (pgr rfl) (.cons (.same rfl) .nil)) rfl) rfl ?_) | (refine ye 83 (x := #[.tmp 38, .tmp 39]) rfl ?_; refine zY rfl (by kernel_rfl) rfl (zZ rfl (yW g (by omega)) (.cons (pgr rfl) (.cons (.same rfl) .nil)) rfl) rfl ?_) | (refine yf 84 (x := #[.tmp 43, .tmp 44]) ?_; refine zg rfl (zz (K := []) (Rs' := [_]) [1] (by decide) rfl (xu g 1 (by omega)) (.cons rfl rfl rfl (zS _ _) (zS _ _) .nil) (.cons (.sl rfl) (.cons (.same rfl) .nil)) (fun q hq => by cases hq) rfl) rfl ?_) | (refine ye 84 (x := #[.tmp 43, .tmp 44]) rfl ?_; refine zY rfl (by kernel_rfl) rfl (zz (K := []) (Rs' := [_]) [1] (by decide) rfl (xu g 1 (by omega)) (.cons rfl rfl rfl (zS _ _) (zS _ _) .nil) (.cons (.sl rfl) (.cons (.same rfl) .nil)) (fun q hq => by cases hq) rfl) rfl ?_) | (refine yf 85 ?_; refine zg rfl (zZ rfl (wJ g (by omega)) (.cons (pmk rfl) (.cons (.same rfl) .nil)) rfl) rfl ?_) | (refine ye 85 rfl ?_; refine zY rfl (by kernel_rfl) rfl (zZ rfl (wJ g (by omega)) (.cons (pmk rfl) (.cons (.same rfl) .nil)) rfl) rfl ?_) | refine zD ?_ | refine zE _ rfl (by kernel_rfl) ?_ | refine zV rfl ?_ | refine zW rfl ?_ | refine zF ?_ | with_reducible refine zL ?_ | refine zJ ?_ | refine zK ?_ | (with_reducible first | refine zO ?_ | refine zP ?_ | refine zG ?_ | refine zI ?_ | refine zH ?_) | refine zQ ?_
  refine zj rfl (fun h => by rw [hnegg] at h; cases h) (fun _ => ?_)
  repeat' first | (refine isA ?_; refine zg rfl (ws rfl rfl rfl) rfl ?_) | refine zM ?_ | refine zC ?_ | refine zR [] ?_ | (refine isA ?_; refine zc rfl ?_) | (refine isL ?_; refine zU rfl (by kernel_rfl) rfl rfl ?_) | (refine zd rfl ?_; refine zT rfl (by kernel_rfl) rfl rfl ?_) | (refine yf 34 ?_; refine zg rfl (zZ rfl (y0 gs (by omega)) (.cons (.same rfl) .nil) rfl) rfl ?_) | (refine ye 34 rfl ?_; refine zY rfl (by kernel_rfl) rfl (zZ rfl (y0 gs (by omega)) (.cons (.same rfl) .nil) rfl) rfl ?_) | (refine yf 87 ?_; refine zg rfl (zZ rfl (c0.frozen (pgr rfl)) (.cons (.same rfl) .nil) rfl) rfl ?_) | (refine ye 87 rfl ?_; refine zY rfl (by kernel_rfl) rfl (zZ rfl (c0.frozen (pgr rfl)) (.cons (.same rfl) .nil) rfl) rfl ?_) | (refine yf 83 ?_; refine zg rfl (zZ rfl (yW g (by omega)) (.cons (.same rfl) (.cons (.same rfl) .nil)) rfl) rfl ?_) | (refine ye 83 rfl ?_; refine zY rfl (by kernel_rfl) rfl (zZ rfl (yW g (by omega)) (.cons (.same rfl) (.cons (.same rfl) .nil)) rfl) rfl ?_) | (refine yf 85 ?_; refine zg rfl (zZ rfl (wJ g (by omega)) (.cons (pmk rfl) (.cons (.same rfl) .nil)) rfl) rfl ?_) | (refine ye 85 rfl ?_; refine zY rfl (by kernel_rfl) rfl (zZ rfl (wJ g (by omega)) (.cons (pmk rfl) (.cons (.same rfl) .nil)) rfl) rfl ?_) | refine zD ?_ | refine zE _ rfl (by kernel_rfl) ?_ | refine zV rfl ?_ | refine zW rfl ?_ | refine zF ?_ | with_reducible refine zL ?_ | refine zJ ?_ | refine zK ?_ | (with_reducible first | refine zO ?_ | refine zP ?_ | refine zG ?_ | refine zI ?_ | refine zH ?_) | refine zQ ?_
  refine zj rfl (fun h => by rw [hnegg] at h; cases h) (fun _ => ?_)
  repeat' first | (refine isA ?_; refine zg rfl (ws rfl rfl rfl) rfl ?_) | refine zM ?_ | refine zC ?_ | refine zR [] ?_ | (refine isA ?_; refine zc rfl ?_) | (refine isL ?_; refine zU rfl (by kernel_rfl) rfl rfl ?_) | (refine zd rfl ?_; refine zT rfl (by kernel_rfl) rfl rfl ?_) | exact vr rfl rfl rfl | refine zD ?_ | refine zE _ rfl (by kernel_rfl) ?_ | refine zV rfl ?_ | refine zW rfl ?_ | refine zF ?_ | with_reducible refine zL ?_ | refine zJ ?_ | refine zK ?_ | (with_reducible first | refine zO ?_ | refine zP ?_ | refine zG ?_ | refine zI ?_ | refine zH ?_) | refine zQ ?_
end Go.Proofs.Ytkcicbigpbdjpaa.Ab.Gq
namespace Go.Proofs.Ytkcicbigpbdjpaa.Ab
open Go.RowKit
section
variable {A : Nat → Prop} {W : World}
theorem te {a : Option Addr} {len cap : Nat} {e : V} (h2 : zN A W [] [e] (fun i => (Value.slice a len cap).cells.toList[i]?)) : Rel A W [] e (.slice a len cap) := by
  obtain ⟨y, h3, h4⟩ := zo h2 (i := 0) (c := e) rfl
  have : y = .slice a len cap := by simpa [Value.cells] using h3.symm
  subst this
  exact h4
end
section
variable {P : Program} {β : Type} {off tot : Nat} {f : Field} {fs : List Field} {eb : β → List V} {okb : β → Prop}
theorem tW {α γ : Type} {t : TypeId} {ea : α → List V} {ec : γ → List V} {oka : α → Prop} {okc : γ → Prop} (h : xM P t ea oka) (f : α → γ) (he : ∀ a, ec (f a) = ea a) (ho : ∀ a, oka a → okc (f a)) : xM P t ec okc := tY f he ho h
theorem uI {k : IntKind} (ho : f.offset = off) (hc : P.cellsOf f.type = 1) (ht : P.underlying f.type = some (.int k)) (hs : x3 P (off + 1) fs eb okb tot) : x3 P off (f :: fs) (fun p : Int × β => .k (.int k p.1) :: eb p.2) (fun p => okI k p.1 ∧ okb p.2) (1 + tot) :=
  qe (c := 1) (ea := fun n : Int => [.k (.int k n)]) ho hc (fun _ => rfl) (tZ ht) hs
end
section
variable {A : Nat → Prop} {W : World}
end
end Go.Proofs.Ytkcicbigpbdjpaa.Ab
namespace Go.Proofs.Ytkcicbigpbdjpaa.Ab
open Go.RowKit
def okRw (c : Rw) : Prop := okI .i64 c.a ∧ okI .i64 c.b ∧ okI .i64 c.c
theorem o_rw : xM Go.Proofs.Try.prog 118 rwE okRw := by
  have h := vB Go.Proofs.Try.underlying118 (by kernel_rfl) (uI rfl (by kernel_rfl) Go.Proofs.Try.underlying3 (uI rfl (by kernel_rfl) Go.Proofs.Try.underlying3 (uI rfl (by kernel_rfl) Go.Proofs.Try.underlying3 nE)))
  exact tW h (fun p => ⟨p.1, p.2.1, p.2.2.1⟩) (fun _ => rfl) (fun _ h => ⟨h.1, h.2.1, h.2.2.1⟩)
theorem p9 : xM Go.Proofs.Try.prog 40 (fun l : List Rw => [rwL l]) (okL okRw) := vb Go.Proofs.Try.underlying40 (by kernel_rfl) o_rw
end Go.Proofs.Ytkcicbigpbdjpaa.Ab
