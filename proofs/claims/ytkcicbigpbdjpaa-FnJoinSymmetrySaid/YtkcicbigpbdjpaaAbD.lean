/-
  NEW NUMBERS FOR THE ROWS; CONTRACTS; CALLS.
-/
import Derived.Test.YtkcicbigpbdjpaaAbC
namespace Go.Proofs.Ytkcicbigpbdjpaa.Ab
open Go.RowKit
set_option linter.unusedVariables false
set_option linter.unusedSimpArgs false

mutual
/-- The first says no more than the second; row number i of the first is row number ψ[i] of the second. -/
def Le (ψ : List Nat) : V → V → Prop
  | .any, _ => True
  | .sl h off len, v => ∃ h', ψ[h]? = some h' ∧ v = .sl h' off len
  | .ptr h off, v => ∃ h', ψ[h]? = some h' ∧ v = .ptr h' off
  | .agg cs, v => ∃ ds, v = .agg ds ∧ Les ψ cs ds
  | .tup cs, v => ∃ ds, v = .tup ds ∧ Les ψ cs ds
  | .fn f cs, v => ∃ ds, v = .fn f ds ∧ Les ψ cs ds
  | .k x, v => v = .k x
  | .lst n cs, v => v = .lst n cs ∨ (n = 0 ∧ cs = [] ∧ v = .k (.slice none 0 0))
  | .pref cs, v => v = .pref cs
def Les (ψ : List Nat) : List V → List V → Prop
  | [], ds => ds = []
  | c :: cs, ds => ∃ d ds', ds = d :: ds' ∧ Le ψ c d ∧ Les ψ cs ds'
end

mutual
/-- A value without rows of the walk's own. -/
def noH : V → Bool
  | .k _ | .lst _ _ | .pref _ | .any => true
  | .agg cs => noHs cs
  | .tup cs => noHs cs
  | .fn _ cs => noHs cs
  | .sl _ _ _ | .ptr _ _ => false
def noHs : List V → Bool
  | [] => true
  | c :: cs => noH c && noHs cs
end
def NoH (cs : List V) : Prop := ∀ c ∈ cs, noH c = true
theorem noHs_mem : ∀ {cs : List V}, noHs cs = true → NoH cs
  | [], _ => fun c hc => by cases hc
  | d :: cs, h => fun c hc => by
    simp only [noHs, Bool.and_eq_true] at h
    rcases List.mem_cons.1 hc with rfl | hc
    · exact h.1
    · exact noHs_mem h.2 c hc

mutual
theorem le_refl {ψ : List Nat} : ∀ {c : V}, noH c = true → Le ψ c c
  | .k _, _ => by simp [Le]
  | .lst _ _, _ => by simp [Le]
  | .pref _, _ => by simp [Le]
  | .any, _ => by simp [Le]
  | .agg cs, h => by rw [Le]; exact ⟨cs, rfl, les_refl' (by simpa only [noH] using h)⟩
  | .tup cs, h => by rw [Le]; exact ⟨cs, rfl, les_refl' (by simpa only [noH] using h)⟩
  | .fn f cs, h => by rw [Le]; exact ⟨cs, rfl, les_refl' (by simpa only [noH] using h)⟩
  | .sl _ _ _, h => by simp [noH] at h
  | .ptr _ _, h => by simp [noH] at h
theorem les_refl' {ψ : List Nat} : ∀ {cs : List V}, noHs cs = true → Les ψ cs cs
  | [], _ => by simp [Les]
  | c :: cs, h => by
    simp only [noHs, Bool.and_eq_true] at h
    rw [Les]
    exact ⟨c, cs, rfl, le_refl h.1, les_refl' h.2⟩
end
theorem les_refl {ψ : List Nat} : ∀ {cs : List V}, NoH cs → Les ψ cs cs
  | [], _ => by simp [Les]
  | c :: cs, h => by
    rw [Les]
    exact ⟨c, cs, rfl, le_refl (h c (List.mem_cons_self ..)), les_refl fun d hd => h d (List.mem_cons_of_mem _ hd)⟩

theorem les_nil {ψ : List Nat} : Les ψ [] [] := by simp [Les]
theorem les_cons {ψ : List Nat} {c d : V} {cs ds : List V} (h : Le ψ c d) (t : Les ψ cs ds) : Les ψ (c :: cs) (d :: ds) := by rw [Les]; exact ⟨d, ds, rfl, h, t⟩
theorem le_any {ψ : List Nat} {d : V} : Le ψ .any d := by simp [Le]
theorem le_sl {ψ : List Nat} {h h' off len len' : Nat} (hp : ψ[h]? = some h') (hl : len' = len) : Le ψ (.sl h off len) (.sl h' off len') := by rw [Le]; exact ⟨h', hp, by rw [hl]⟩
theorem le_ptr {ψ : List Nat} {h h' off : Nat} (hp : ψ[h]? = some h') : Le ψ (.ptr h off) (.ptr h' off) := by rw [Le]; exact ⟨h', hp, rfl⟩
theorem le_k {ψ : List Nat} {u v : Value} (h : u = v) : Le ψ (.k u) (.k v) := by subst h; exact le_refl rfl
theorem le_lst {ψ : List Nat} {n n' : Nat} {cs cs' : List V} (h : n = n') (h' : cs = cs') : Le ψ (.lst n cs) (.lst n' cs') := by subst h; subst h'; exact le_refl rfl
theorem le_nilS {ψ : List Nat} : Le ψ (.lst 0 []) (.k (.slice none 0 0)) := by simp [Le]
theorem le_agg {ψ : List Nat} {cs ds : List V} (h : Les ψ cs ds) : Le ψ (.agg cs) (.agg ds) := by rw [Le]; exact ⟨ds, rfl, h⟩
theorem le_tup {ψ : List Nat} {cs ds : List V} (h : Les ψ cs ds) : Le ψ (.tup cs) (.tup ds) := by rw [Le]; exact ⟨ds, rfl, h⟩

theorem les_length {ψ : List Nat} : ∀ {cs ds : List V}, Les ψ cs ds → ds.length = cs.length
  | [], ds, h => by rw [Les] at h; subst h; rfl
  | c :: cs, ds, h => by
    rw [Les] at h
    obtain ⟨d, ds', rfl, _, h2⟩ := h
    simp [les_length h2]

section
variable {A : Nat → Prop} {w : World} {φ φ' : List Hd} {ψ : List Nat}
mutual
theorem Le.rel (hp : ∀ (i h : Nat), ψ[i]? = some h → ∀ hd, φ[h]? = some hd → φ'[i]? = some hd) : ∀ {c d : V} {x : Value}, Le ψ c d → Rel A w φ d x → Rel A w φ' c x
  | .any, d, x, h, hr => by rw [Rel]; trivial
  | .sl h off len, d, x, hl, hr => by
    rw [Le] at hl
    obtain ⟨h', h1, rfl⟩ := hl
    rw [Rel] at hr ⊢
    obtain ⟨hd, h2, h3⟩ := hr
    exact ⟨hd, hp _ _ h1 _ h2, h3⟩
  | .ptr h off, d, x, hl, hr => by
    rw [Le] at hl
    obtain ⟨h', h1, rfl⟩ := hl
    rw [Rel] at hr ⊢
    obtain ⟨hd, b, h2, h3⟩ := hr
    exact ⟨hd, b, hp _ _ h1 _ h2, h3⟩
  | .agg cs, d, x, hl, hr => by
    rw [Le] at hl
    obtain ⟨ds, rfl, h1⟩ := hl
    rw [Rel] at hr ⊢
    obtain ⟨xs, e1, e2, h2⟩ := hr
    exact ⟨xs, e1, e2.trans (les_length h1), Les.rels hp h1 h2⟩
  | .tup cs, d, x, hl, hr => by
    rw [Le] at hl
    obtain ⟨ds, rfl, h1⟩ := hl
    rw [Rel] at hr ⊢
    obtain ⟨xs, e1, e2, h2⟩ := hr
    exact ⟨xs, e1, e2.trans (les_length h1), Les.rels hp h1 h2⟩
  | .fn f cs, d, x, hl, hr => by
    rw [Le] at hl
    obtain ⟨ds, rfl, h1⟩ := hl
    rw [Rel] at hr ⊢
    obtain ⟨xs, e1, e2, h2⟩ := hr
    exact ⟨xs, e1, e2.trans (les_length h1), Les.rels hp h1 h2⟩
  | .k y, d, x, hl, hr => by
    rw [Le] at hl
    subst hl
    simp only [Rel] at hr ⊢
    exact hr
  | .lst n cs, d, x, hl, hr => by
    rw [Le] at hl
    rcases hl with rfl | ⟨rfl, rfl, rfl⟩
    · simp only [Rel] at hr ⊢
      exact hr
    · simp only [Rel] at hr ⊢
      exact ⟨none, 0, hr, Nat.le_refl _, Nat.le_refl _, Or.inl trivial⟩
  | .pref cs, d, x, hl, hr => by
    rw [Le] at hl
    subst hl
    simp only [Rel] at hr ⊢
    exact hr
theorem Les.rels (hp : ∀ (i h : Nat), ψ[i]? = some h → ∀ hd, φ[h]? = some hd → φ'[i]? = some hd) : ∀ {cs ds : List V} {g : Nat → Option Value}, Les ψ cs ds → Rels A w φ ds g → Rels A w φ' cs g
  | [], ds, g, hl, hr => by rw [Rels]; trivial
  | c :: cs, ds, g, hl, hr => by
    rw [Les] at hl
    obtain ⟨d, ds', rfl, h1, h2⟩ := hl
    rw [Rels] at hr ⊢
    obtain ⟨⟨y, h3, h4⟩, h5⟩ := hr
    exact ⟨⟨y, h3, Le.rel hp h1 h4⟩, Les.rels hp h2 h5⟩
end
end

/-- The rows K are among the rows H, by the numbers ψ. -/
def HLe (ψ : List Nat) (K H : List Reg) : Prop :=
  ψ.length = K.length ∧ ψ.Nodup ∧ ∀ (i : Nat) (h : Nat), ψ[i]? = some h → ∃ r r', K[i]? = some r ∧ H[h]? = some r' ∧ (r.mode ≤ 1 → r'.mode = r.mode ∧ r'.esz = r.esz ∧ r'.e = r.e ∧ Les ψ r.cells r'.cells)

theorem HLe.ok {A : Nat → Prop} {w : World} {φ : List Hd} {ψ : List Nat} {K H : List Reg} (hl : HLe ψ K H) (hok : HeapOk A w φ H) :
    ∃ φ', φ'.length = K.length ∧ (∀ (i h : Nat), ψ[i]? = some h → ∀ hd, φ[h]? = some hd → φ'[i]? = some hd) ∧ HeapOk A w φ' K ∧ (∀ i b, LiveAt φ' K i b → ∃ h, LiveAt φ H h b) := by
  obtain ⟨hlen, hnd, hreg⟩ := hl
  let φ' : List Hd := ψ.map fun h => φ.getD h ⟨none, 0, 0, 0⟩
  have hget : ∀ (i h : Nat), ψ[i]? = some h → ∀ hd, φ[h]? = some hd → φ'[i]? = some hd := fun i h h1 hd h2 => by
    simp only [φ', List.getElem?_map, h1, Option.map_some, List.getD, h2, Option.getD_some]
  have hback : ∀ (i : Nat) (hd : Hd), φ'[i]? = some hd → ∃ h, ψ[i]? = some h ∧ φ[h]? = some hd := fun i hd h1 => by
    simp only [φ', List.getElem?_map] at h1
    cases hi : ψ[i]? with
    | none => rw [hi] at h1; simp at h1
    | some h =>
      rw [hi] at h1
      obtain ⟨r, r', _, k2, _⟩ := hreg i h hi
      have hlt : h < φ.length := by rw [hok.len]; exact (List.getElem?_eq_some_iff.1 k2).1
      refine ⟨h, rfl, ?_⟩
      simp only [Option.map_some, List.getD, List.getElem?_eq_getElem hlt, Option.getD_some, Option.some.injEq] at h1
      rw [List.getElem?_eq_getElem hlt, h1]
  have hlive : ∀ i b, LiveAt φ' K i b → ∃ h', ψ[i]? = some h' ∧ LiveAt φ H h' b := fun i b ⟨hd, r, h1, h2, h3, h4⟩ => by
    obtain ⟨h', k1, k2⟩ := hback i hd h1
    obtain ⟨r1, r', m1, m2, m3⟩ := hreg i h' k1
    rw [h2] at m1
    cases m1
    exact ⟨h', k1, hd, r', k2, m2, (m3 (by omega)).1.trans h3, h4⟩
  refine ⟨φ', by simp [φ', hlen], hget, ⟨by simp [φ', hlen], fun i hd r h1 h2 h3 => ?_, fun i j b h1 h2 => ?_, fun i b h1 => ?_, fun i hd r b h1 h2 h3 h4 => ?_, hok.low⟩, fun i b h1 => ?_⟩
  · obtain ⟨h', k1, k2⟩ := hback i hd h1
    obtain ⟨r1, r', m1, m2, m3⟩ := hreg i h' k1
    rw [h2] at m1
    cases m1
    obtain ⟨m4, m5, m5', m6⟩ := m3 h3
    obtain ⟨e1, e2⟩ := hok.regs h' hd r' k2 m2 (by omega)
    refine ⟨⟨e1.1.trans m5, e1.2.1.trans m5', e1.2.2⟩, ?_⟩
    cases hb : hd.blk with
    | none =>
      rw [hb] at e2
      have := les_length m6
      rw [e2.1] at this
      exact ⟨List.length_eq_zero_iff.1 this.symm, e2.2⟩
    | some b =>
      rw [hb] at e2
      obtain ⟨c, k3, k4, k5, k6⟩ := e2
      exact ⟨c, k3, k4, by rw [← les_length m6]; exact k5, Les.rels hget m6 k6⟩
  · obtain ⟨a1, a2, a3⟩ := hlive i b h1
    obtain ⟨b1, b2, b3⟩ := hlive j b h2
    have := hok.inj _ _ _ a3 b3
    subst this
    exact (List.getElem?_inj (by rw [hlen]; exact (by obtain ⟨hd, r, q1, q2, _⟩ := h1; exact (List.getElem?_eq_some_iff.1 q2).1)) hnd).1 (a2.trans b2.symm)
  · obtain ⟨a1, a2, a3⟩ := hlive i b h1
    exact hok.apart _ _ a3
  · obtain ⟨h', k1, k2⟩ := hback i hd h1
    obtain ⟨r1, r', m1, m2, m3⟩ := hreg i h' k1
    rw [h2] at m1
    cases m1
    exact hok.frz h' hd r' b k2 m2 ((m3 (by omega)).1.trans h3) h4
  · obtain ⟨a1, a2, a3⟩ := hlive i b h1
    exact ⟨a1, a3⟩

theorem sub_of {T S : St} (ψ : List Nat) (hm : T.m = S.m) (hfix : ∀ i, i < S.m → ψ[i]? = some i) (hH : HLe ψ T.H S.H) (ht : Les ψ T.tmps S.tmps) : Sub T S := fun C φ a w hI => by
  obtain ⟨hm0, ⟨A, hA, hr⟩, hs, hd⟩ := hI
  obtain ⟨φ', h1, h2, h3, h4⟩ := hH.ok hA.ok
  refine ⟨φ', hm0.trans hm.symm, ⟨A, ⟨h3, hA.old, fun i b hb => ?_, hA.frame, fun i hd' hi => ?_⟩, Les.rels h2 ht hr⟩, hs.trans (les_length ht), hd⟩
  · obtain ⟨h, hb'⟩ := h4 i b hb
    exact hA.own h b hb'
  · exact h2 i i (hfix i (by rw [← hm0]; exact (List.getElem?_eq_some_iff.1 hi).1)) hd' (hA.pre i hd' hi)

/-! ### Contracts -/

/-- Function f, called with arguments that fit 'cargs' and rows 'hs' (handed over), returns what fits 'r', and leaves rows 'hs'' (the handed ones first); 'al': the result may be read from the arguments' own memory. -/
def Meets (P : Program) (f : FuncId) (cargs : List V) (hs : List Reg) (r : V) (hs' : List Reg) (al : Bool) : Prop :=
  ∀ (A : Nat → Prop) (φ : List Hd) (w : World) (xs : Array Value), HeapOk A w φ hs → Rels A w φ cargs (fun i => xs[i]?) → xs.size = cargs.length →
    Calls P f xs w fun e w' => ∃ x φ' A', e = .returned x ∧ HeapOk A' w' φ' hs' ∧ Rel A' w' φ' r x ∧ (∀ b, A' b → (al = true ∧ A b) ∨ w.heap.size ≤ b) ∧
      (∀ h b, LiveAt φ' hs' h b → w.heap.size ≤ b ∨ ∃ h0, LiveAt φ hs h0 b) ∧ Framed ⟨A, w, φ, hs⟩ w' ∧ (∀ (h : Nat) (hd : Hd), φ[h]? = some hd → φ'[h]? = some hd)

/-- What is handed back. -/
def Out (al : Bool) (r : V) (hs' : List Reg) (v : V) (S : St) : Prop :=
  ∀ C A φ w x, C.φ0.length = S.m → InvA C A φ S.H w → Rel A w φ v x → ∃ φ' A', HeapOk A' w φ' hs' ∧ Rel A' w φ' r x ∧ (∀ b, A' b → (al = true ∧ C.A0 b) ∨ C.w0.heap.size ≤ b) ∧
    (∀ h b, LiveAt φ' hs' h b → C.w0.heap.size ≤ b ∨ ∃ h0, LiveAt C.φ0 C.H0 h0 b) ∧ (∀ (h : Nat) (hd : Hd), C.φ0[h]? = some hd → φ'[h]? = some hd)

/-- The results' slots, read. -/
def resV (S : St) : List Tmp → V
  | [t] => (S.tmps[t]?).getD .any
  | ts => .tup (ts.map fun t => (S.tmps[t]?).getD .any)

def resTmps (fn : Func) : Option (List Tmp) := fn.results.toList.mapM fun | .tmp t => some t | _ => none

theorem run_mapM {P : Program} (tmps : Array Value) (w : World) (g : ResultVar → Sem Value) (hg : ∀ t, g (.tmp t) = pure (tmps.getD t undef)) : ∀ l : List Tmp, (List.mapM g (l.map ResultVar.tmp)).run P w = .ok (l.map fun t => tmps.getD t undef) w
  | [] => by simp
  | t :: l => by
    rw [List.map_cons, List.mapM_cons, hg]
    simp only [Sem.run_bind, Sem.run_pure, Result.andThen_ok]
    rw [run_mapM tmps w g hg l]
    rfl

def resX (tmps : Array Value) : List Tmp → Value
  | [t] => tmps.getD t undef
  | ts => .tuple (ts.map fun t => tmps.getD t undef).toArray

theorem run_results {P : Program} {fn : Func} {ts : List Tmp} (h : fn.results = (ts.map ResultVar.tmp).toArray) (tmps : Array Value) (w : World) :
    (results fn tmps).run P w = .ok (resX tmps ts) w := by
  unfold results
  simp only [h, List.mapM_toArray, Sem.run_bind, Sem.run_map]
  rw [run_mapM tmps w _ (fun t => rfl)]
  simp only [Result.andThen_ok, Sem.run_pure]
  match ts with
  | [] => rfl
  | [t] => rfl
  | t :: u :: l => simp [resX]

theorem resV_rel {A : Nat → Prop} {w : World} {φ : List Hd} {S : St} {a : Act} (h : Rels A w φ S.tmps (fun i => a.tmps[i]?)) (ts : List Tmp) : Rel A w φ (resV S ts) (resX a.tmps ts) := by
  have h1 : ∀ t, Rel A w φ ((S.tmps[t]?).getD .any) (a.tmps.getD t undef) := fun t => ev_rel h (.tmp t)
  have h2 : ∀ l : List Tmp, Rel A w φ (.tup (l.map fun t => (S.tmps[t]?).getD .any)) (.tuple (l.map fun t => a.tmps.getD t undef).toArray) := fun l => by
    rw [Rel]
    refine ⟨_, rfl, by simp, rels_iff.2 fun i c hc => ?_⟩
    rw [List.getElem?_map] at hc
    cases hi : l[i]? with
    | none => rw [hi] at hc; simp at hc
    | some t =>
      rw [hi] at hc
      simp only [Option.map_some, Option.some.injEq] at hc
      subst hc
      exact ⟨a.tmps.getD t undef, by simp [hi], h1 t⟩
  match ts with
  | [] => exact h2 []
  | [t] => exact h1 t
  | t :: u :: l => exact h2 (t :: u :: l)

/-- The contract of a function, from a walk of its body. -/
theorem meets_of {P : Program} {f : FuncId} {fn : Func} {c : Code} {cargs : List V} {hs : List Reg} {r : V} {hs' : List Reg} {al : Bool} (ts : List Tmp)
    (hf : P.funcs[f]? = some fn) (hb : fn.body = some c) (hr : fn.results = (ts.map ResultVar.tmp).toArray)
    (h : AW P c (fun e S => (e = .ret ∨ e = .normal) ∧ Out al r hs' (resV S ts) S) ⟨cargs ++ List.replicate (fn.ntmps - cargs.length) (.k undef), hs, hs.length⟩) : Meets P f cargs hs r hs' al := by
  intro A φ w xs hok hrel hsz
  refine calls_of_wp hf hb ?_
  have hI : Inv ⟨A, w, φ, hs⟩ φ ⟨cargs ++ List.replicate (fn.ntmps - cargs.length) (.k undef), hs, hs.length⟩ { tmps := xs ++ Array.replicate (fn.ntmps - xs.size) undef, defers := [] } w := by
    refine ⟨hok.len, ⟨A, ⟨hok, fun b hb => Or.inl hb, fun h b hl => Or.inr ⟨h, hl⟩, ⟨rfl, rfl, rfl, Nat.le_refl _, fun _ _ _ => rfl⟩, fun _ _ h => h⟩, ?_⟩, by simp [hsz], rfl⟩
    refine rels_append (rels_congr hrel fun i hi => ?_) (rels_iff.2 fun i c hc => ⟨undef, ?_, ?_⟩)
    · simp [Array.getElem?_append, hsz, hi]
    · have hlt := (List.getElem?_eq_some_iff.1 hc).1
      simp only [List.length_replicate] at hlt
      simp only [Array.getElem?_append, hsz, Nat.not_lt.2 (Nat.le_add_right _ _), if_false, Nat.add_sub_cancel_left]
      simp [hlt]
    · have := List.mem_of_getElem? hc
      obtain rfl := List.eq_of_mem_replicate this
      simp [Rel]
  refine wp_mono (h.out ⟨A, w, φ, hs⟩ φ _ w hI) ?_
  rintro e a' w' ⟨S', φ1, hI', he, ho⟩
  obtain ⟨hm, ⟨A1, hA1, hr1⟩, hs1, hd1⟩ := hI'
  obtain ⟨φ', A', k1, k2, k3, k4, k5⟩ := ho ⟨A, w, φ, hs⟩ A1 φ1 w' (resX a'.tmps ts) hm hA1 (resV_rel hr1 ts)
  have key : a'.defers = [] ∧ ∃ v, (results fn a'.tmps).run P w' = .ok v w' ∧ ∃ x φ' A', (Ending.returned v) = .returned x ∧ HeapOk A' w' φ' hs' ∧ Rel A' w' φ' r x ∧ (∀ b, A' b → (al = true ∧ A b) ∨ w.heap.size ≤ b) ∧
      (∀ h b, LiveAt φ' hs' h b → w.heap.size ≤ b ∨ ∃ h0, LiveAt φ hs h0 b) ∧ Framed ⟨A, w, φ, hs⟩ w' ∧ (∀ (h : Nat) (hd : Hd), φ[h]? = some hd → φ'[h]? = some hd) :=
    ⟨hd1, _, run_results hr _ _, _, φ', A', rfl, k1, k2, k3, k4, hA1.frame, k5⟩
  rcases he with rfl | rfl
  · exact key
  · exact key

end Go.Proofs.Ytkcicbigpbdjpaa.Ab
