/-
  THE OPERATIONS AS A FUNCTION: what can be reckoned is reckoned.
-/
import Derived.Test.YtkcicbigpbdjpaaAbL
namespace Go.Proofs.Ytkcicbigpbdjpaa.Ab
open Go.RowKit
set_option linter.unusedVariables false
set_option linter.unusedSimpArgs false

/-- What the reckoning knows of types. -/
structure Tab where
  ag : List (Nat × Nat)
  sc : List Nat
  fd : List ((Nat × Nat) × (Nat × Nat × Bool))
  ze : List (Nat × List Value)
  pl : List (Nat × List (Nat × Nat))
  sl : List (Nat × (Nat × Nat × Nat))
  ik : List (Nat × IntKind)
  str : List Nat
  bl : List Nat

structure TabOk (P : Program) (T : Tab) : Prop where
  ag : ∀ p ∈ T.ag, Ag P p.1 p.2
  sc : ∀ t ∈ T.sc, Sc P t
  fd : ∀ p ∈ T.fd, Fd P p.1.1 p.1.2 p.2.1 p.2.2.1 p.2.2.2
  ze : ∀ p ∈ T.ze, Ze P p.1 p.2
  pl : ∀ p ∈ T.pl, Pl P p.1 p.2
  sl : ∀ p ∈ T.sl, Sl P p.1 p.2.1 p.2.2.1 p.2.2.2
  ik : ∀ p ∈ T.ik, Ik P p.1 p.2
  str : ∀ t ∈ T.str, Str P t
  bl : ∀ t ∈ T.bl, P.underlying t = some .bool

def look {α : Type} : List (Nat × α) → Nat → Option α
  | [], _ => none
  | (k, v) :: r, t => match Nat.beq k t with
    | true => some v
    | false => look r t
def look2 {α : Type} : List ((Nat × Nat) × α) → Nat → Nat → Option α
  | [], _, _ => none
  | ((k, j), v) :: r, t, f => match Nat.beq k t && Nat.beq j f with
    | true => some v
    | false => look2 r t f
def isIn : List Nat → Nat → Bool
  | [], _ => false
  | k :: r, t => match Nat.beq k t with
    | true => true
    | false => isIn r t

theorem look_mem {α : Type} : ∀ {l : List (Nat × α)} {t : Nat} {v : α}, look l t = some v → (t, v) ∈ l
  | [], _, _, h => by cases h
  | (k, u) :: r, t, v, h => by
    unfold look at h
    split at h
    · rename_i hk
      cases h
      rw [Nat.eq_of_beq_eq_true hk]
      exact List.mem_cons_self ..
    · exact List.mem_cons_of_mem _ (look_mem h)
theorem look2_mem {α : Type} : ∀ {l : List ((Nat × Nat) × α)} {t f : Nat} {v : α}, look2 l t f = some v → ((t, f), v) ∈ l
  | [], _, _, _, h => by cases h
  | ((k, j), u) :: r, t, f, v, h => by
    unfold look2 at h
    split at h
    · rename_i hk
      cases h
      simp only [Bool.and_eq_true] at hk
      rw [Nat.eq_of_beq_eq_true hk.1, Nat.eq_of_beq_eq_true hk.2]
      exact List.mem_cons_self ..
    · exact List.mem_cons_of_mem _ (look2_mem h)
theorem isIn_mem : ∀ {l : List Nat} {t : Nat}, isIn l t = true → t ∈ l
  | [], _, h => by cases h
  | k :: r, t, h => by
    unfold isIn at h
    split at h
    · rename_i hk
      rw [Nat.eq_of_beq_eq_true hk]
      exact List.mem_cons_self ..
    · exact List.mem_cons_of_mem _ (isIn_mem h)

/-- The first n. -/
def takeN : Nat → List V → Option (List V)
  | 0, _ => some []
  | _ + 1, [] => none
  | n + 1, c :: cs => match takeN n cs with
    | some r => some (c :: r)
    | none => none
def dropN : Nat → List V → Option (List V)
  | 0, cs => some cs
  | _ + 1, [] => none
  | n + 1, _ :: cs => dropN n cs
/-- Put in at a place. -/
def putN : Nat → List V → List V → Option (List V)
  | 0, [], cs => some cs
  | 0, _ :: _, [] => none
  | 0, v :: vs, _ :: cs => match putN 0 vs cs with
    | some r => some (v :: r)
    | none => none
  | _ + 1, _, [] => none
  | n + 1, vs, c :: cs => match putN n vs cs with
    | some r => some (c :: r)
    | none => none
def setN : List V → Nat → V → Option (List V)
  | [], _, _ => none
  | _ :: cs, 0, v => some (v :: cs)
  | c :: cs, n + 1, v => match setN cs n v with
    | some r => some (c :: r)
    | none => none

theorem takeN_eq : ∀ {n : Nat} {cs r : List V}, takeN n cs = some r → r = cs.take n ∧ n ≤ cs.length
  | 0, _, _, h => by cases h; simp
  | n + 1, [], _, h => by cases h
  | n + 1, c :: cs, r, h => by
    unfold takeN at h
    split at h
    · rename_i r' hr
      cases h
      obtain ⟨h1, h2⟩ := takeN_eq hr
      simp [h1, h2]
    · cases h
theorem dropN_eq : ∀ {n : Nat} {cs r : List V}, dropN n cs = some r → r = cs.drop n
  | 0, _, _, h => by cases h; rfl
  | n + 1, [], _, h => by cases h
  | n + 1, c :: cs, r, h => by
    unfold dropN at h
    simpa using dropN_eq h
theorem dropN_le : ∀ {n : Nat} {cs r : List V}, dropN n cs = some r → n ≤ cs.length
  | 0, _, _, h => Nat.zero_le _
  | n + 1, [], _, h => by cases h
  | n + 1, c :: cs, r, h => by
    unfold dropN at h
    simpa using dropN_le h
theorem putN_eq : ∀ {n : Nat} {vs cs r : List V}, putN n vs cs = some r → r = setCells cs n vs ∧ n + vs.length ≤ cs.length
  | 0, [], _, _, h => by unfold putN at h; cases h; simp [setCells]
  | 0, _ :: _, [], _, h => by cases h
  | 0, v :: vs, c :: cs, r, h => by
    unfold putN at h
    split at h
    · rename_i r' hr
      cases h
      obtain ⟨h1, h2⟩ := putN_eq hr
      simp only [setCells, List.take_zero, List.nil_append, Nat.zero_add] at h1 ⊢
      subst h1
      simp only [Nat.zero_add, List.length_cons, Nat.add_le_add_iff_right] at h2 ⊢
      exact ⟨rfl, h2⟩
    · cases h
  | n + 1, vs, [], _, h => by cases vs <;> cases h
  | n + 1, vs, c :: cs, r, h => by
    unfold putN at h
    split at h
    · rename_i r' hr
      cases h
      obtain ⟨h1, h2⟩ := putN_eq hr
      subst h1
      refine ⟨?_, by simp only [List.length_cons]; omega⟩
      simp [setCells, Nat.succ_add]
    · cases h
theorem setN_eq : ∀ {cs r : List V} {n : Nat} {v : V}, setN cs n v = some r → r = cs.set n v
  | [], _, _, _, h => by cases h
  | _ :: cs, _, 0, v, h => by unfold setN at h; cases h; rfl
  | c :: cs, r, n + 1, v, h => by
    unfold setN at h
    split at h
    · rename_i r' hr
      cases h
      rw [setN_eq hr]
      rfl
    · cases h

/-- Two values without memory. -/
def binF (T : Tab) (op : BinOp) (t : TypeId) (u v : Value) : Option Value :=
  match u, v with
  | .int k a, .int k' b => if k = k' then (match op with
      | .add => some (.int k (k.wrap (a + b)))
      | .sub => some (.int k (k.wrap (a - b)))
      | .mul => some (.int k (k.wrap (a * b)))
      | .quo => if b = 0 then none else some (.int k (k.wrap (a.tdiv b)))
      | .rem => if b = 0 then none else some (.int k (a.tmod b))
      | .lss => some (.bool (decide (a < b)))
      | .leq => some (.bool (decide (a ≤ b)))
      | .gtr => some (.bool (decide (b < a)))
      | .geq => some (.bool (decide (b ≤ a)))
      | .eql => some (.bool (decide (a = b)))
      | .neq => some (.bool (!decide (a = b)))
      | _ => none) else none
  | .bool a, .bool b => match op, isIn T.bl t with
      | .eql, true => some (.bool (a == b))
      | .neq, true => some (.bool (!(a == b)))
      | _, _ => none
  | .string a, .string b => match op with
      | .eql => some (.bool (a.toList == b.toList))
      | .neq => some (.bool (!(a.toList == b.toList)))
      | _ => none
  | _, _ => none

def unF (op : UnOp) (u : Value) : Option Value :=
  match op, u with
  | .not, .bool b => some (.bool (!b))
  | .neg, .int k n => some (.int k (k.wrap (0 - n)))
  | _, _ => none

def allOne : List V → Bool
  | [] => true
  | c :: cs => match oneV c with
    | true => allOne cs
    | false => false

theorem allOne_mem : ∀ {cs : List V}, allOne cs = true → ∀ c ∈ cs, oneV c = true
  | [], _, c, hc => by cases hc
  | d :: cs, h, c, hc => by
    unfold allOne at h
    split at h
    · rename_i hd
      rcases List.mem_cons.1 hc with rfl | hc
      · exact hd
      · exact allOne_mem h c hc
    · cases h

def setR : List Reg → Nat → Reg → Option (List Reg)
  | [], _, _ => none
  | _ :: cs, 0, v => some (v :: cs)
  | c :: cs, n + 1, v => match setR cs n v with
    | some r => some (c :: r)
    | none => none
theorem setR_eq : ∀ {cs r : List Reg} {n : Nat} {v : Reg}, setR cs n v = some r → r = cs.set n v
  | [], _, _, _, h => by cases h
  | _ :: cs, _, 0, v, h => by unfold setR at h; cases h; rfl
  | c :: cs, r, n + 1, v, h => by
    unfold setR at h
    split at h
    · rename_i r' hr
      cases h
      rw [setR_eq hr]
      rfl
    · cases h

/-- fillV, reckoned. -/
def fillF (place : Nat → Option (Nat × Nat)) (l : List V) (cells : List V) : List (Nat × Operand) → Option (List V)
  | [] => some cells
  | (i, x) :: rest => match place i, evO l x with
    | some (off, size), some v => match cellsV v with
      | some vs => match putN off vs cells, Nat.beq vs.length size with
        | some cs, true => fillF place l cs rest
        | _, _ => none
      | none => none
    | _, _ => none

theorem fillF_eq {place : Nat → Option (Nat × Nat)} {l : List V} {H : List Reg} {m : Nat} : ∀ {ps : List (Nat × Operand)} {cells cs : List V}, fillF place l cells ps = some cs → fillV place cells (ps.map fun p => (p.1, (⟨l, H, m⟩ : St).ev p.2)) = some cs
  | [], _, _, h => h
  | (i, x) :: ps, cells, cs, h => by
    unfold fillF at h
    simp only [List.map_cons, fillV]
    split at h
    · rename_i off size v h1 h2
      split at h
      · rename_i vs h3
        split at h
        · rename_i cs' h4 h5
          obtain ⟨h6, h7⟩ := putN_eq h4
          rw [h1, ev_of h2, h3]
          simp only
          rw [if_pos ⟨Nat.eq_of_beq_eq_true h5, h7⟩, ← h6]
          exact fillF_eq h
        · cases h
      · cases h
    · cases h

def callF (T : Tab) (l : List V) (H : List Reg) : Callee → List Operand → List TypeId → Option (V × List Reg)
  | .builtin .len, [x], [t] => match evO l x with
    | some (.lst n _) => (match look T.sl t with
      | some _ => some (.k (.int .i64 n), H)
      | none => none)
    | some (.sl _ _ n) => (match look T.sl t with
      | some _ => some (.k (.int .i64 n), H)
      | none => none)
    | some (.k (.slice _ n _)) => (match look T.sl t with
      | some _ => some (.k (.int .i64 n), H)
      | none => none)
    | some (.k (.string s)) => (match isIn T.str t with
      | true => some (.k (.int .i64 s.size), H)
      | false => none)
    | _ => none
  | .builtin .max, [x, y], _ => match evO l x, evO l y with
    | some (.k (.int k a)), some (.k (.int _ b)) => some (.k (.int k (if b > a then b else a)), H)
    | _, _ => none
  | .builtin .min, [x, y], _ => match evO l x, evO l y with
    | some (.k (.int k a)), some (.k (.int _ b)) => some (.k (.int k (if b < a then b else a)), H)
    | _, _ => none
  | _, _, _ => none

def stepF (T : Tab) (l : List V) (H : List Reg) : Op → Option (V × List Reg)
  | .move x | .assign x => match evO l x with
    | some v => some (v, H)
    | none => none
  | .pick c x y => match evO l c with
    | some (.k (.bool true)) => (match evO l x with
      | some v => some (v, H)
      | none => none)
    | some (.k (.bool false)) => (match evO l y with
      | some v => some (v, H)
      | none => none)
    | _ => none
  | .binOp op t x y _ => match evO l x, evO l y with
    | some (.k u), some (.k v) => (match binF T op t u v with
      | some r => some (.k r, H)
      | none => none)
    | _, _ => none
  | .unOp op _ x => match evO l x with
    | some (.k u) => (match unF op u with
      | some r => some (.k r, H)
      | none => none)
    | _ => none
  | .convert s d x => match evO l x, look T.ik s, look T.ik d with
    | some (.k (.int _ n)), some _, some k => some (.k (.int k (k.wrap n)), H)
    | _, _, _ => none
  | .extract x i => match evO l x with
    | some (.tup vs) => (match vs[i]? with
      | some v => some (v, H)
      | none => none)
    | _ => none
  | .load t x => match evO l x with
    | some (.pref cs) => (match isIn T.sc t, cs with
      | true, c :: _ => some (c, H)
      | true, [] => none
      | false, _ => (match look T.ag t with
        | some n => (match takeN n cs with
          | some r => some (.agg r, H)
          | none => none)
        | none => none))
    | some (.ptr h off) => (match H[h]? with
      | some r => (match Nat.ble r.mode 1 with
        | true => (match isIn T.sc t with
          | true => (match r.cells[off]? with
            | some c => some (c, H)
            | none => none)
          | false => (match look T.ag t, dropN off r.cells with
            | some n, some cs => (match takeN n cs with
              | some r => some (.agg r, H)
              | none => none)
            | _, _ => none))
        | false => none)
      | none => none)
    | _ => none
  | .fieldAddr t x f => match look2 T.fd t f with
    | some (off, _, _) => (match evO l x with
      | some (.pref cs) => (match dropN off cs with
        | some r => some (.pref r, H)
        | none => none)
      | some (.ptr h q) => some (.ptr h (q + off), H)
      | _ => none)
    | none => none
  | .field t x f => match look2 T.fd t f with
    | some (off, n, ag) => (match evO l x with
      | some (.agg cs) => (match ag with
        | false => (match cs[off]? with
          | some c => some (c, H)
          | none => none)
        | true => (match dropN off cs with
          | some ds => (match takeN n ds with
            | some r => some (.agg r, H)
            | none => none)
          | none => none))
      | _ => none)
    | none => none
  | .nilCheck x => match evO l x with
    | some (.ptr h q) => some (.ptr h q, H)
    | _ => none
  | .alloc t => match look T.ze t with
    | some zs => some (.ptr H.length 0, H ++ [⟨t, zs.length, zs.map V.k, 0⟩])
    | none => none
  | .box t x => match evO l x with
    | some v => (match cellsV v with
      | some cs => some (.ptr H.length 0, H ++ [⟨t, cs.length, cs, 0⟩])
      | none => none)
    | none => none
  | .store t x y => match evO l x, evO l y with
    | some (.ptr h off), some v => (match cellsV v, H[h]? with
      | some vs, some r => (match putN off vs r.cells, r.mode, allOne vs with
        | some cs, 0, true => (match (isIn T.sc t && Nat.beq vs.length 1) || (match look T.ag t with
            | some n => Nat.beq vs.length n
            | none => false) with
          | true => (match setR H h ⟨r.e, r.esz, cs, 0⟩ with
            | some H' => some (.k undef, H')
            | none => none)
          | false => none)
        | _, _, _ => none)
      | _, _ => none)
    | _, _ => none
  | .build t ps => match look T.ze t, look T.pl t with
    | some zs, some pl => (match fillF (pl[·]?) l (zs.map V.k) ps.toList with
      | some cs => some (.agg cs, H)
      | none => none)
    | _, _ => none
  | .buildSlice t len ps => match look T.sl t with
    | some (e, n, _) => (match Nat.ble (len * n) 16777216, fillF (fun i => some (i * n, n)) l (List.replicate (len * n) V.any) ps.toList with
      | true, some cs => (match Nat.beq cs.length (len * n) with
        | true => some (.sl H.length 0 len, H ++ [⟨e, n, cs, 0⟩])
        | false => none)
      | _, _ => none)
    | none => none
  | .call c => callF T l H c.callee c.args.toList c.argTypes.toList
  | _ => none

section
variable {P : Program} {T : Tab} {l : List V} {H H' : List Reg} {m : Nat} {o : Oper}

theorem binF_ok {op : BinOp} {t t' : TypeId} {x y : Operand} {u v r : Value} (hT : TabOk P T) (ho : o.op = .binOp op t x y t') (hx : (⟨l, H, m⟩ : St).ev x = .k u) (hy : (⟨l, H, m⟩ : St).ev y = .k v) (h : binF T op t u v = some r) : Step P o (St.ev ⟨l, H, m⟩) H (.k r) H := by
  unfold binF at h
  split at h
  · split at h
    · rename_i hk
      subst hk
      split at h
      · cases h; exact step_add ho hx hy
      · cases h; exact step_sub ho hx hy
      · cases h; exact step_mul ho hx hy
      · split at h
        · cases h
        · cases h; exact step_quo ho hx hy ‹_›
      · split at h
        · cases h
        · cases h; exact step_rem ho hx hy ‹_›
      · cases h; exact step_lss ho hx hy
      · cases h; exact step_leq ho hx hy
      · cases h; exact step_gtr ho hx hy
      · cases h; exact step_geq ho hx hy
      · cases h; exact step_eql ho hx hy
      · cases h; exact step_neq ho hx hy
      · cases h
    · cases h
  · split at h
    · cases h; exact step_eqlb ho hx hy (hT.bl _ (isIn_mem ‹_›))
    · cases h; exact step_neqb ho hx hy (hT.bl _ (isIn_mem ‹_›))
    · cases h
  · split at h
    · cases h; exact step_eqls ho hx hy
    · cases h; exact step_neqs ho hx hy
    · cases h
  · cases h

theorem evk {x : Operand} {v : V} (h : evO l x = some v) : (⟨l, H, m⟩ : St).ev x = v := ev_of h

theorem store_ok (hT : TabOk P T) {t : TypeId} {x y : Operand} {h off : Nat} {v : V} {vs cs : List V} {r : Reg} (ho : o.op = .store t x y) (hx : evO l x = some (.ptr h off)) (hy : evO l y = some v) (hv : cellsV v = some vs) (hr : H[h]? = some r) (hc : putN off vs r.cells = some cs) (hm : r.mode = 0) (h1 : allOne vs = true)
    (ht : (isIn T.sc t && Nat.beq vs.length 1 || match look T.ag t with | some n => Nat.beq vs.length n | none => false) = true) (hH : setR H h ⟨r.e, r.esz, cs, 0⟩ = some H') : Step P o (St.ev ⟨l, H, m⟩) H (.k undef) H' := by
  obtain ⟨e1, e2⟩ := putN_eq hc
  have e3 := setR_eq hH
  subst e3
  have hreg : (⟨r.e, r.esz, cs, 0⟩ : Reg) = { r with cells := setCells r.cells off vs } := by rw [e1, ← hm]
  rw [hreg]
  simp only [Bool.or_eq_true, Bool.and_eq_true] at ht
  rcases ht with ht | ht
  · have := hT.sc t (isIn_mem ht.1)
    have hl := Nat.eq_of_beq_eq_true ht.2
    exact step_store_gen this.s ho (evk hx) (by rw [evk hy]; exact hv) hl (allOne_mem h1) hr hm (by omega)
  · split at ht
    · rename_i n hn
      have := hT.ag _ (look_mem hn)
      have hl := Nat.eq_of_beq_eq_true ht
      exact step_store_gen this.s ho (evk hx) (by rw [evk hy]; exact hv) hl (allOne_mem h1) hr hm (by omega)
    · cases ht

theorem stepF_ok (hT : TabOk P T) {v : V} (h : stepF T l H o.op = some (v, H')) : Step P o (St.ev ⟨l, H, m⟩) H v H' := by
  generalize ho : o.op = op at h
  cases op <;> simp only [stepF] at h
  case move x => split at h <;> cases h; exact st_move ho ‹_›
  case assign x => split at h <;> cases h; exact st_assign ho ‹_›
  case pick c x y =>
    split at h
    · split at h <;> cases h; exact st_pick_t ho (evk ‹_›) ‹_›
    · split at h <;> cases h; exact st_pick_f ho (evk ‹_›) ‹_›
    · cases h
  case binOp op t x y t' =>
    split at h
    · split at h <;> cases h; exact binF_ok hT ho (evk ‹_›) (evk ‹_›) ‹_›
    · cases h
  case unOp op t x =>
    split at h
    · split at h
      · rename_i r hr
        cases h
        unfold unF at hr
        split at hr
        · cases hr; exact step_not ho (evk ‹evO l x = some _›)
        · cases hr; exact step_neg ho (evk ‹evO l x = some _›)
        · cases hr
      · cases h
    · cases h
  case convert s d x =>
    split at h
    · cases h
      have i1 := hT.ik _ (look_mem ‹look T.ik s = some _›)
      have i2 := hT.ik _ (look_mem ‹look T.ik d = some _›)
      exact step_conv ho (evk ‹evO l x = some _›)
    · cases h
  case extract x i =>
    split at h
    · split at h <;> cases h; exact step_extract ho (evk ‹_›) ‹_›
    · cases h
  case load t x =>
    split at h
    · rename_i cs hx
      split at h
      · rename_i c r hs
        cases h
        have := hT.sc t (isIn_mem hs)
        exact step_load_pref ho (evk hx)
      · cases h
      · split at h
        · rename_i n hn
          split at h
          · rename_i r hr
            cases h
            obtain ⟨e1, e2⟩ := takeN_eq hr
            subst e1
            have := hT.ag _ (look_mem hn)
            exact step_load_prefs ho (evk hx) e2
          · cases h
        · cases h
    · rename_i hh off hx
      split at h
      · rename_i r hr
        split at h
        · rename_i hm
          split at h
          · rename_i hs
            split at h
            · rename_i c hc
              cases h
              have := hT.sc t (isIn_mem hs)
              exact step_load_ptr ho (evk hx) hr (Nat.le_of_ble_eq_true hm) hc
            · cases h
          · split at h
            · rename_i n cs hn hd
              split at h
              · rename_i r' hr'
                cases h
                obtain ⟨e1, e2⟩ := takeN_eq hr'
                have e3 := dropN_eq hd
                subst e3
                subst e1
                have := hT.ag _ (look_mem hn)
                have hle : off + n ≤ r.cells.length := by
                  simp only [List.length_drop] at e2
                  have hn0 : 0 < n ∨ n = 0 := by omega
                  rcases hn0 with h0 | h0
                  · omega
                  · subst h0
                    exact dropN_le hd
                exact step_load_ptrs ho (evk hx) hr (Nat.le_of_ble_eq_true hm) hle
              · cases h
            · cases h
        · cases h
      · cases h
    · cases h
  case fieldAddr t x f =>
    split at h
    · rename_i off n ag hf
      have := hT.fd _ (look2_mem hf)
      split at h
      · rename_i cs hx
        split at h
        · rename_i r hr
          cases h
          have e := dropN_eq hr
          subst e
          exact step_fa_pref (n := n) (ag := ag) ho (evk hx)
        · cases h
      · rename_i hh q hx
        cases h
        exact step_fa_ptr (n := n) (ag := ag) ho (evk hx)
      · cases h
    · cases h
  case field t x f =>
    split at h
    · rename_i off n ag hf
      have hfd := hT.fd _ (look2_mem hf)
      split at h
      · rename_i cs hx
        cases ag with
        | false =>
          simp only at h
          split at h
          · rename_i c hc
            cases h
            exact step_field (n := n) ho (evk hx) hc
          · cases h
        | true =>
          simp only at h
          split at h
          · rename_i ds hd
            split at h
            · rename_i r hr
              cases h
              obtain ⟨e1, e2⟩ := takeN_eq hr
              have e3 := dropN_eq hd
              subst e3
              subst e1
              simp only [List.length_drop] at e2
              have hp := hfd.pos
              exact step_fields (n := n) ho (evk hx) (by simp only at hp; omega)
            · cases h
          · cases h
      · cases h
    · cases h
  case nilCheck x =>
    split at h
    · cases h; exact step_nilCheck ho (evk ‹_›)
    · cases h
  case alloc t =>
    split at h
    · rename_i zs hz
      cases h
      have := hT.ze _ (look_mem hz)
      exact step_alloc ho
    · cases h
  case box t x =>
    split at h
    · rename_i v hv
      split at h
      · rename_i cs hc
        cases h
        exact step_box ho (by rw [evk hv]; exact hc) rfl
      · cases h
    · cases h
  case store t x y =>
    split at h
    · rename_i hh off v hx hy
      split at h
      · rename_i vs r hv hr
        split at h
        · rename_i cs hc hm h1
          split at h
          · rename_i ht
            split at h
            · rename_i H'' hH
              cases h
              exact store_ok hT ho hx hy hv hr hc hm h1 ht hH
            · cases h
          · cases h
        · cases h
      · cases h
    · cases h
  case build t ps =>
    split at h
    · rename_i zs pl hz hp
      split at h
      · rename_i cs hc
        cases h
        have i1 := hT.ze _ (look_mem hz)
        have i2 := hT.pl _ (look_mem hp)
        exact step_build (ps := ps.toList) (by simpa using ho) (fillF_eq hc)
      · cases h
    · cases h
  case buildSlice t len ps =>
    split at h
    · rename_i e n b hs
      have := hT.sl _ (look_mem hs)
      split at h
      · rename_i cs hle hc
        split at h
        · rename_i hl
          cases h
          exact step_buildSlice (b := b) (ps := ps.toList) (by simpa using ho) (Nat.le_of_ble_eq_true hle) (fillF_eq hc) (Nat.eq_of_beq_eq_true hl)
        · cases h
      · cases h
    · cases h
  case call c =>
    obtain ⟨callee, ⟨args⟩, ⟨ats⟩⟩ := c
    simp only at h
    unfold callF at h
    split at h
    · split at h
      · split at h
        · rename_i q hs
          cases h
          have := hT.sl _ (look_mem hs)
          exact step_len_lst (e := q.1) (n := q.2.1) (b := q.2.2) (ty := 0) ho (evk ‹_›)
        · cases h
      · split at h
        · rename_i q hs
          cases h
          have := hT.sl _ (look_mem hs)
          exact step_len_sl (e := q.1) (n := q.2.1) (b := q.2.2) ho (evk ‹_›)
        · cases h
      · split at h
        · rename_i q hs
          cases h
          have := hT.sl _ (look_mem hs)
          exact step_len_k (e := q.1) (n := q.2.1) (b := q.2.2) ho (evk ‹_›)
        · cases h
      · split at h
        · rename_i hs
          cases h
          have := hT.str _ (isIn_mem hs)
          exact step_len_str ho (evk ‹_›)
        · cases h
      · cases h
    · split at h
      · cases h; exact step_max ho (evk ‹_›) (evk ‹_›)
      · cases h
    · split at h
      · cases h; exact step_min ho (evk ‹_›) (evk ‹_›)
      · cases h
    · cases h
  all_goals cases h
end
end Go.Proofs.Ytkcicbigpbdjpaa.Ab
