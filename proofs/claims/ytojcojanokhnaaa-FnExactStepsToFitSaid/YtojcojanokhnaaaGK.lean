/- Texts SsB, SsC, SsD, SsE, SsF in one. -/
import Derived.Test.YtojcojanokhnaaaGB
import Derived.Test.YtojcojanokhnaaaGJ
set_option linter.unusedVariables false
set_option linter.unusedSimpArgs false
set_option maxRecDepth 20000
set_option maxHeartbeats 8000000
/- SsB -/
namespace Go.Proofs.Ytojcojanokhnaaa.Ab
open Go.RowKit

theorem aw_joinAt2 {P : Program} (id : Nat) {ops : Array Oper} {b : Bool} {c y : Code} {Q : Exit → St → Prop} {S : St} (T0 T : St) (hs : Sub T0 S) (h : AW P (.seq (.region id ops b) c) (fun e S' => e = .normal ∧ Sub T S') T0) (k : AW P y Q T) : AW P (.seq (.seq (.region id ops b) c) y) Q S :=
  aw_joinAt id T (aw_sub hs h) k
theorem aw_joinR {P : Program} (id : Nat) {ops : Array Oper} {b : Bool} {y : Code} {Q : Exit → St → Prop} {S : St} (T : St) (h : AW P (.region id ops b) (fun e S' => e = .normal ∧ Sub T S') S) (k : AW P y Q T) : AW P (.seq (.region id ops b) y) Q S :=
  aw_seq ⟨fun C φ a w hI => wp_mono (h.out C φ a w hI) fun e a' w' hq => by
    obtain ⟨S', φ1, hI', he, hs⟩ := hq
    subst he
    obtain ⟨φ2, h2⟩ := hs C φ1 a' w' hI'
    exact ⟨T, φ2, h2, k⟩⟩
theorem finMCTN {l : List V} {H : List Reg} {al : Bool} {t : Tmp} {us : List Tmp} {n : Nat} {v r : V} {K : List Reg} (ψ : List Nat) (hv : CellIs l H t n v) (hr : Le ψ r (.tup (v :: us.map fun u => (l[u]?).getD .any))) (hH : HLe ψ K H) (hal : al = true ∨ (flatV r = true ∧ ∀ q ∈ K, q.mode ≠ 1 ∧ (q.mode = 0 → FlatS q.cells))) :
    (Exit.ret = .ret ∨ Exit.ret = .normal) ∧ ∃ v, CellIs l H t n v ∧ Out al r K (.tup (v :: us.map fun u => (l[u]?).getD .any)) ⟨l, H, 0⟩ := ⟨Or.inl rfl, v, hv, out_ofN (S := ⟨l, H, 0⟩) ψ (fun i hi => absurd hi (Nat.not_lt_zero _)) hH hr hal⟩

/-! ### Lists of lists whose rows stand anywhere -/
def nX (ix : List Nat) (rs : List Rn) : List V := List.zipWith (fun i x => V.sl i 0 x.length) ix rs
theorem nC_nX : ∀ (b : Nat) (rs : List Rn), nC b rs = nX (List.range' b rs.length) rs
  | _, [] => rfl
  | b, x :: rs => by
    show V.sl b 0 x.length :: nC (b + 1) rs = _
    rw [nC_nX (b + 1) rs]
    rfl
theorem nX_app {ix jx : List Nat} {rs ss : List Rn} (h : ix.length = rs.length) : nX (ix ++ jx) (rs ++ ss) = nX ix rs ++ nX jx ss := by
  unfold nX
  exact List.zipWith_append h
theorem nX_len {ix : List Nat} {rs : List Rn} (h : ix.length = rs.length) : (nX ix rs).length = rs.length := by simp [nX, h]
theorem les_nX {ψ : List Nat} : ∀ {b : Nat} {ix : List Nat} {rs : List Rn}, ix.length = rs.length → (∀ j, j < rs.length → ψ[b + j]? = ix[j]?) → Les ψ (nC b rs) (nX ix rs)
  | b, ix, [], hl, h => by
    rw [List.eq_nil_of_length_eq_zero hl]
    exact les_nil
  | b, [], x :: rs, hl, h => by simp at hl
  | b, i :: ix, x :: rs, hl, h => by
    refine les_cons (le_sl (by have := h 0 (by simp); simpa using this) rfl) (les_nX (by simpa using hl) fun j hj => ?_)
    have := h (j + 1) (by simp; omega)
    rw [show b + 1 + j = b + (j + 1) by omega]
    simpa using this
theorem hle_nestL {H : List Reg} {hs ix : List Nat} {K1 : List Reg} {rs : List Rn} (hl : ix.length = rs.length) (hn : (hs ++ ix).Nodup) (h1 : HLes (hs ++ ix) H hs K1) (h2 : ∀ (j i : Nat) (x : Rn), ix[j]? = some i → rs[j]? = some x → H[i]? = some (rwR x)) :
    HLe (hs ++ ix) (K1 ++ nR rwT 78 rs) H := by
  obtain ⟨e1, e2⟩ := h1.get
  refine ⟨by simp [e1, nR, hl], hn, fun i h hi => ?_⟩
  rcases Nat.lt_or_ge i hs.length with hlt | hge
  · rw [List.getElem?_append_left hlt] at hi
    obtain ⟨r, r', q1, q2, q3⟩ := e2 i h hi
    exact ⟨r, r', app_left q1, q2, q3⟩
  · rw [List.getElem?_append_right hge] at hi
    have hlt := (List.getElem?_eq_some_iff.1 hi).1
    obtain ⟨x, hx⟩ : ∃ z, rs[i - hs.length]? = some z := ⟨_, List.getElem?_eq_getElem (by omega)⟩
    refine ⟨rwR x, rwR x, ?_, h2 _ _ _ hi hx, fun _ => ⟨rfl, rfl, rfl, les_refl (flat_noH _ _)⟩⟩
    rw [List.getElem?_append_right (by omega), ← e1]
    exact nR_at hx
theorem psi_ix (hs ix : List Nat) (j : Nat) : (hs ++ ix)[hs.length + j]? = ix[j]? := by
  rw [List.getElem?_append_right (Nat.le_add_right _ _), Nat.add_sub_cancel_left]

theorem soR_sh (b n : Nat) (s : So) : (soR b s).map (shR n) = soR (b + n) s := by
  have h : ∀ xs : List Rw, shR n (rwR xs) = rwR xs := fun xs => by
    show ({ rwR xs with cells := shVs n (rwT.flat xs) } : Reg) = rwR xs
    rw [shVs_noH n (noHs_of (flat_noH rwT xs))]
  rw [List.map_cons, List.map_cons, List.map_cons, List.map_cons, List.map_cons, h, h, h, h, nR_sh]
  simp only [shR, shVs_nC, Nat.add_right_comm b 5 n]
theorem soO_sh (b n : Nat) (s : So) : shV n (.agg (soO b s)) = .agg (soO (b + n) s) := by
  simp only [shV, shVs, Nat.add_right_comm]

abbrev zS : List V := [nilV, I 0, nilV, nilV, nilV, nilV, I 0, I 0, I 0, I 0]
abbrev bxS (cs : List V) : Reg := ⟨27, 10, cs, 0⟩
/-- The rows while a step is made: the argument, the result, the sorter, what is handed out, the sorter's lists. -/
abbrev stH (s t : So) (r : List Rw) : List Reg := bxS (soE s) :: bxS zS :: bxS (soO 4 t) :: rwR r :: soR 4 t
theorem c_isgrant (g : Int) : Meets Go.Proofs.Try.prog 57 [I g] [] (B (inV g 8 60)) [] false := by
  refine meets_of [2] Go.Proofs.Try.func57 rfl rfl ?_
  simp only [Go.Proofs.Try.ntmps57, List.length_cons, List.length_nil, Nat.reduceAdd, Nat.reduceSub, List.replicate_succ, List.replicate_zero, List.cons_append, List.nil_append]
  repeat' first | refine aw_seq ?_ | refine aw_region ?_ | refine aw_lex [] ?_ | (refine isA ?_; refine do_F rfl ?_) | (refine isL ?_; refine lex_F rfl (by kernel_rfl) rfl rfl ?_) | (refine isLg rfl ?_; refine lex_S rfl (by kernel_rfl) rfl rfl ?_) | (refine isAc 75 ?_; refine do_R rfl (st_call rfl (c_within g 8 60) (.cons (.same rfl) (.cons (.same rfl) (.cons (.same rfl) .nil))) rfl) rfl ?_) | (refine isLc 75 rfl ?_; refine lex_R rfl (by kernel_rfl) rfl (st_call rfl (c_within g 8 60) (.cons (.same rfl) (.cons (.same rfl) (.cons (.same rfl) .nil))) rfl) rfl ?_) | exact fin1 rfl rfl rfl | refine aops_nil ?_ | refine lex_done _ rfl (by kernel_rfl) ?_ | refine aw_ct rfl ?_ | refine aw_cf rfl ?_ | refine aw_block ?_ | with_reducible refine then_n ?_ | refine aw_skip ?_ | refine aw_exit ?_ | (with_reducible first | refine then_x ?_ | refine then_r ?_ | refine block_x ?_ | refine block_n ?_ | refine block_r ?_) | refine aw_ret ?_
@[irreducible] def Hold (p : Prop) : Prop := p
theorem unhold {p : Prop} (h : Hold p) : p := by unfold Hold at h; exact h
theorem hold {p : Prop} (h : p) : Hold p := by unfold Hold; exact h
/-- The walk's state behind a step: the sorter and what is handed out. -/
abbrev stL (s : So) (g : Int) (n : Nat) : List V := (.any :: (I g) :: (.ptr 0 0) :: .any :: (.ptr 1 0) :: .any :: .any :: (.ptr 2 0) :: (.sl 3 0 n) :: .any :: .any :: .any :: .any :: .any :: .any :: .any :: .any :: .any :: .any :: .any :: .any :: .any :: .any :: .any :: .any :: .any :: .any :: .any :: .any :: .any :: .any :: .any :: .any :: .any :: .any :: .any :: .any :: .any :: .any :: .any :: .any :: .any :: .any :: .any :: .any :: .any :: .any :: .any :: .any :: .any :: .any :: .any :: .any :: .any :: .any :: .any :: .any :: .any :: .any :: .any :: .any :: .any :: .any :: .any :: .any :: .any :: .any :: .any :: .any :: .any :: .any :: .any :: .any :: .any :: .any :: .any :: .any :: .any :: .any :: .any :: .any :: .any :: .any :: .any :: .any :: .any :: .any :: .any :: .any :: .any :: .any :: .any :: .any :: .any :: .any :: .any :: .any :: .any :: .any :: .any :: .any :: .any :: .any :: .any :: .any :: .any :: .any :: .any :: .any :: .any :: .any :: .any :: .any :: .any :: .any :: .any :: .any :: .any :: .any :: .any :: .any :: .any :: .any :: .any :: .any :: .any :: .any :: .any :: .any :: .any :: .any :: .any :: .any :: .any :: .any :: .any :: .any :: .any :: .any :: .any :: .any :: .any :: .any :: .any :: .any :: .any :: .any :: .any :: .any :: .any :: .any :: .any :: .any :: .any :: .any :: .any :: .any :: .any :: .any :: .any :: .any :: .any :: .any :: .any :: .any :: .any :: .any :: .any :: .any :: .any :: .any :: .any :: .any :: .any :: .any :: .any :: .any :: .any :: .any :: .any :: .any :: .any :: .any :: .any :: .any :: .any :: .any :: .any :: .any :: .any :: .any :: .any :: .any :: .any :: .any :: .any :: .any :: .any :: .any :: .any :: .any :: .any :: .any :: .any :: .any :: .any :: .any :: .any :: .any :: .any :: .any :: .any :: .any :: .any :: .any :: .any :: .any :: .any :: .any :: .any :: .any :: .any :: .any :: .any :: .any :: .any :: .any :: .any :: .any :: .any :: .any :: .any :: .any :: .any :: .any :: .any :: .any :: .any :: .any :: .any :: .any :: .any :: .any :: .any :: .any :: .any :: .any :: .any :: .any :: [])
abbrev stT (s t : So) (g : Int) (r : List Rw) : St := ⟨stL s g r.length, stH s t r, 0⟩
/-- The step itself: the code between the checks and the end. -/
noncomputable def midC : Code := match (Go.Proofs.Try.f13).body with
  | some (.seq _ (.seq _ (.seq _ (.seq _ (.seq m _))))) => m
  | _ => .skip
theorem get9 {a0 a1 a2 a3 a4 a5 a6 a7 a8 x : Reg} {L : List Reg} {j : Nat} (h : L[j]? = some x) : (a0 :: a1 :: a2 :: a3 :: a4 :: a5 :: a6 :: a7 :: a8 :: L)[9 + j]? = some x := by
  rw [Nat.add_comm]; exact h
theorem pur_so {H : List Reg} {s : So} {h1 h2 h3 h4 h5 b : Nat} (e1 : H[h1]? = some (rwR s.input)) (e2 : H[h2]? = some (rwR s.heap)) (e3 : H[h3]? = some (rwR s.dfr)) (e4 : H[h4]? = some (rwR s.out)) (e5 : H[h5]? = some ⟨84, 1, nC b s.runs, 0⟩) (e6 : ∀ j x, s.runs[j]? = some x → H[b + j]? = some (rwR x)) :
    Pur true H (.agg [.sl h1 0 s.input.length, I s.pos, .sl h2 0 s.heap.length, .sl h3 0 s.dfr.length, .sl h4 0 s.out.length, .sl h5 0 s.runs.length, I s.lp, I s.rp, I s.ph, I s.wr]) (.agg (soE s)) :=
  .agg (.cons (pur_row e1) (.cons (.same rfl) (.cons (pur_row e2) (.cons (pur_row e3) (.cons (pur_row e4) (.cons (pur_nest e5 e6) (.cons (.same rfl) (.cons (.same rfl) (.cons (.same rfl) (.cons (.same rfl) .nil))))))))))
theorem getB {a0 a1 a2 a3 a4 a5 a6 a7 a8 x : Reg} {L : List Reg} {j : Nat} (h : L[j]? = some x) : (a0 :: a1 :: a2 :: a3 :: a4 :: a5 :: a6 :: a7 :: a8 :: L)[j + 9]? = some x := h
theorem setCells_all {cs vs : List V} (h : vs.length = cs.length) : setCells cs 0 vs = vs := by
  unfold setCells
  rw [List.take_zero, List.nil_append, Nat.zero_add, h, List.drop_length, List.append_nil]
/-- A cell of its own, written and read. -/
theorem st_box {P : Program} {o : Oper} {ρ : Operand → V} {L : List Reg} {N : Reg} {h t n : Nat} {x y : Operand} {vs : List V} [ht : Ag P t n] (ho : o.op = .store t x y) (hx : ρ x = .ptr h 0) (hL : L.length = h) (hy : ρ y = .agg vs) (hn : vs.length = n) (h1 : ∀ c ∈ vs, oneV c = true) (hm : N.mode = 0) (hc : N.cells.length = n) : Step P o ρ (L ++ [N]) (.k undef) (L ++ [{ N with cells := vs }]) := by
  have := step_stores (P := P) (o := o) (ρ := ρ) (H := L ++ [N]) ho hx hy hn h1 (get_last hL) hm (by omega)
  rw [set_last hL, setCells_all (by omega)] at this
  exact this
theorem ld_box {P : Program} {o : Oper} {ρ : Operand → V} {H : List Reg} {N : Reg} {h t n : Nat} {x : Operand} [ht : Ag P t n] (ho : o.op = .load t x) (hx : ρ x = .ptr h 0) (hH : H[h]? = some N) (hm : Nat.ble N.mode 1 = true) (hc : N.cells.length = n) : Step P o ρ H (.agg N.cells) H := by
  have := step_load_ptrs (P := P) (o := o) (n := n) (ρ := ρ) (H := H) ho hx hH (Nat.le_of_ble_eq_true hm) (by omega : 0 + n ≤ N.cells.length)
  rw [List.drop_zero, List.take_of_length_le (by omega)] at this
  exact this
theorem rwE_one (r : Rw) : ∀ c ∈ rwE r, oneV c = true := fun c hc => by
  simp only [rwE, List.mem_cons, List.not_mem_nil, or_false] at hc
  rcases hc with rfl | rfl | rfl <;> rfl
/-- Back in the state behind a step: where the rows stand. -/
theorem sub_st {s t : So} {r : List Rw} {l lT : List V} {H : List Reg} (hs ix : List Nat) (hl9 : hs.length = 9) (hl : ix.length = t.runs.length) (hn : (hs ++ ix).Nodup)
    (h1 : HLes (hs ++ ix) H hs [bxS (soE s), bxS zS, bxS (soO 4 t), rwR r, rwR t.input, rwR t.heap, rwR t.dfr, rwR t.out, ⟨84, 1, nC 9 t.runs, 0⟩]) (h2 : ∀ (j i : Nat) (x : Rn), ix[j]? = some i → t.runs[j]? = some x → H[i]? = some (rwR x))
    (ht : Les (hs ++ ix) lT l) : Sub ⟨lT, stH s t r, 0⟩ ⟨l, H, 0⟩ := by
  have := hle_nestL hl hn h1 h2
  exact sub_of (T := ⟨lT, stH s t r, 0⟩) (S := ⟨l, H, 0⟩) (hs ++ ix) rfl (fun i hi => absurd hi (Nat.not_lt_zero _)) this ht
theorem nR_l0 {rs : List Rn} {e : TypeId} : (nR rwT e rs).length = rs.length := by simp [nR_length]
theorem nR_l1 {rs : List Rn} {e : TypeId} {N : Reg} : (nR rwT e rs ++ [N]).length = rs.length + 1 := by simp [nR_length]
theorem nR_l2 {rs : List Rn} {e : TypeId} {N M : Reg} : (nR rwT e rs ++ [N] ++ [M]).length = rs.length + 2 := by simp [nR_length]
theorem nR_l3 {rs : List Rn} {e : TypeId} {N M O : Reg} : (nR rwT e rs ++ [N] ++ [M] ++ [O]).length = rs.length + 3 := by simp [nR_length]
theorem ix9 {n j i : Nat} (h : (List.range' 9 n)[j]? = some i) : i = 9 + j := by
  rw [List.getElem?_range'] at h
  · have := Option.some.inj h; omega
  · exact Nat.lt_of_not_le fun hn => by rw [List.getElem?_eq_none (by simpa using hn)] at h; cases h
def stQ (s x : So) (g : Int) (r : List Rw) : Exit → St → Prop := fun e S' => e = .normal ∧ Sub (stT s x g r) S'
end Go.Proofs.Ytojcojanokhnaaa.Ab

/- SsC -/
namespace Go.Proofs.Ytojcojanokhnaaa.Ab
open Go.RowKit

theorem memsum {s : So} {r : Rw} (h : memV s ≤ 60) : IntKind.i64.wrap (memV s + costV r) = memV s + costV r := by
  have h1 := mem_nn s
  have h2 := cost_b r
  rw [IntKind.wrap_i64]; omega
theorem c_put (s : So) (g : Int) (r : Rw) (hok : okSo s) (hb : VBa s) (hm : memV s ≤ 60) (hp : s.ph = 1) (hr : s.input[s.pos.toNat]? = some r) (hf : memV s + costV r ≤ g) : AW Go.Proofs.Try.prog midC (stQ s (putV s r) g []) (stT s s g []) := by
  obtain ⟨p, hpp, hple⟩ := hb.pos
  have e1 : s.pos.toNat = p := by omega
  rw [e1] at hr
  have hlt := (List.getElem?_eq_some_iff.1 hr).1
  have g1 := hok.heap
  have g2 := hok.dfr
  have g3 := hok.input
  have am := c_imem s hok
  have ew : IntKind.i64.wrap (s.pos + 1) = s.pos + 1 := by rw [IntKind.wrap_i64]; omega
  have cb := c_below r s.out (by have := hok.out; omega)
  repeat' first | (refine aw_cond rfl (fun _ => ?_) (fun h => absurd hp (of_decide_eq_false h))) | refine aw_seq ?_ | refine aw_region ?_ | refine aw_lex [] ?_ | (refine isA ?_; refine do_F rfl ?_) | (refine isL ?_; refine lex_F rfl (by kernel_rfl) rfl rfl ?_) | (refine isLg rfl ?_; refine lex_S rfl (by kernel_rfl) rfl rfl ?_) | refine aops_nil ?_ | refine lex_done _ rfl (by kernel_rfl) ?_ | refine aw_ct rfl ?_ | refine aw_cf rfl ?_ | refine aw_block ?_ | with_reducible refine then_n ?_ | refine aw_skip ?_ | refine aw_exit ?_ | (with_reducible first | refine then_x ?_ | refine then_r ?_ | refine block_x ?_ | refine block_n ?_ | refine block_r ?_) | refine aw_ret ?_
  refine lex_br rfl rfl rfl rfl (fun _ => ?_) (fun h => absurd (of_decide_eq_false h) (by omega))
  repeat' first | refine aw_seq ?_ | refine aw_region ?_ | refine aw_lex [] ?_ | (refine isA ?_; refine do_F rfl ?_) | (refine isL ?_; refine lex_F rfl (by kernel_rfl) rfl rfl ?_) | (refine isLg rfl ?_; refine lex_S rfl (by kernel_rfl) rfl rfl ?_) | (refine isAc 19 ?_; refine do_R rfl (st_call rfl am (.cons (pur_so rfl rfl rfl rfl rfl fun j x hx => get9 (nR_at hx)) .nil) rfl) rfl ?_) | (refine isLc 19 rfl ?_; refine lex_R rfl (by kernel_rfl) rfl (st_call rfl am (.cons (pur_so rfl rfl rfl rfl rfl fun j x hx => get9 (nR_at hx)) .nil) rfl) rfl ?_) | (refine isAi (x := .tmp 53) ?_; refine do_R rfl (step_ia_sl (j := s.pos) rfl rfl rfl (Nat.zero_le _) rfl rfl (by omega) (by omega)) rfl ?_) | (refine isLi (x := .tmp 53) rfl ?_; refine lex_R rfl (by kernel_rfl) rfl (step_ia_sl (j := s.pos) rfl rfl rfl (Nat.zero_le _) rfl rfl (by omega) (by omega)) rfl ?_) | (refine isAl (x := .tmp 56) ?_; refine do_R rfl (ld_a (T := rwT) (i := 0 + s.pos.toNat) (z := r) rfl rfl rfl (by rw [Nat.zero_add, e1]; exact hr)) rfl ?_) | (refine isLl (x := .tmp 56) rfl ?_; refine lex_R rfl (by kernel_rfl) rfl (ld_a (T := rwT) (i := 0 + s.pos.toNat) (z := r) rfl rfl rfl (by rw [Nat.zero_add, e1]; exact hr)) rfl ?_) | (refine isAc 58 ?_; refine do_R rfl (st_call rfl (c_irc r) (.cons (.same rfl) .nil) rfl) rfl ?_) | (refine isLc 58 rfl ?_; refine lex_R rfl (by kernel_rfl) rfl (st_call rfl (c_irc r) (.cons (.same rfl) .nil) rfl) rfl ?_) | refine aops_nil ?_ | refine lex_done _ rfl (by kernel_rfl) ?_ | refine aw_ct rfl ?_ | refine aw_cf rfl ?_ | refine aw_block ?_ | with_reducible refine then_n ?_ | refine aw_skip ?_ | refine aw_exit ?_ | (with_reducible first | refine then_x ?_ | refine then_r ?_ | refine block_x ?_ | refine block_n ?_ | refine block_r ?_) | refine aw_ret ?_
  refine aw_cond rfl (fun _ => ?_) (fun h => absurd (of_decide_eq_false h) (by rw [memsum hm]; omega))
  repeat' first | refine aw_seq ?_ | refine aw_region ?_ | refine aw_lex [] ?_ | (refine isA ?_; refine do_F rfl ?_) | (refine isL ?_; refine lex_F rfl (by kernel_rfl) rfl rfl ?_) | (refine isLg rfl ?_; refine lex_S rfl (by kernel_rfl) rfl rfl ?_) | (refine isAi (x := .tmp 64) ?_; refine do_R rfl (step_ia_sl (j := s.pos) rfl rfl rfl (Nat.zero_le _) rfl rfl (by omega) (by omega)) rfl ?_) | (refine isLi (x := .tmp 64) rfl ?_; refine lex_R rfl (by kernel_rfl) rfl (step_ia_sl (j := s.pos) rfl rfl rfl (Nat.zero_le _) rfl rfl (by omega) (by omega)) rfl ?_) | (refine isAl (x := .tmp 67) ?_; refine do_R rfl (ld_a (T := rwT) (i := 0 + s.pos.toNat) (z := r) rfl rfl rfl (by rw [Nat.zero_add, e1]; exact hr)) rfl ?_) | (refine isLl (x := .tmp 67) rfl ?_; refine lex_R rfl (by kernel_rfl) rfl (ld_a (T := rwT) (i := 0 + s.pos.toNat) (z := r) rfl rfl rfl (by rw [Nat.zero_add, e1]; exact hr)) rfl ?_) | (refine isAs (x := .tmp 9) ?_; refine do_R rfl (st_box rfl rfl rfl rfl rfl (rwE_one r) rfl rfl) rfl ?_) | (refine isLs (x := .tmp 9) rfl ?_; refine lex_R rfl (by kernel_rfl) rfl (st_box rfl rfl rfl rfl rfl (rwE_one r) rfl rfl) rfl ?_) | (refine isAl (x := .tmp 9) ?_; refine do_R rfl (ld_box rfl rfl (get_last rfl) rfl rfl) rfl ?_) | (refine isLl (x := .tmp 9) rfl ?_; refine lex_R rfl (by kernel_rfl) rfl (ld_box rfl rfl (get_last rfl) rfl rfl) rfl ?_) | (refine isAc 59 ?_; refine do_R rfl (st_call rfl cb (.cons (.same rfl) (.cons (pur_row rfl) .nil)) rfl) rfl ?_) | (refine isLc 59 rfl ?_; refine lex_R rfl (by kernel_rfl) rfl (st_call rfl cb (.cons (.same rfl) (.cons (pur_row rfl) .nil)) rfl) rfl ?_) | refine aops_nil ?_ | refine lex_done _ rfl (by kernel_rfl) ?_ | refine aw_ct rfl ?_ | refine aw_cf rfl ?_ | refine aw_block ?_ | with_reducible refine then_n ?_ | refine aw_skip ?_ | refine aw_exit ?_ | (with_reducible first | refine then_x ?_ | refine then_r ?_ | refine block_x ?_ | refine block_n ?_ | refine block_r ?_) | refine aw_ret ?_
  refine aw_cond rfl (fun h => ?_) (fun h => ?_)
  · repeat' first | (refine isA ?_; refine do_R rfl (lit_of rfl rfl rfl rfl rfl) rfl ?_) | refine aw_seq ?_ | refine aw_region ?_ | refine aw_lex [] ?_ | (refine isA ?_; refine do_F rfl ?_) | (refine isL ?_; refine lex_F rfl (by kernel_rfl) rfl rfl ?_) | (refine isLg rfl ?_; refine lex_S rfl (by kernel_rfl) rfl rfl ?_) | (refine isAl (x := .tmp 9) ?_; refine do_R rfl (ld_box rfl rfl (get_last rfl) rfl rfl) rfl ?_) | (refine isLl (x := .tmp 9) rfl ?_; refine lex_R rfl (by kernel_rfl) rfl (ld_box rfl rfl (get_last rfl) rfl rfl) rfl ?_) | (refine isAp ?_; refine do_R rfl (ap_l (t := rwT) (xs := s.dfr) (ys := [r]) rfl rfl rfl rfl (.lst _ _) (by simp; omega) rfl) rfl ?_) | (refine isLp rfl ?_; refine lex_R rfl (by kernel_rfl) rfl (ap_l (t := rwT) (xs := s.dfr) (ys := [r]) rfl rfl rfl rfl (.lst _ _) (by simp; omega) rfl) rfl ?_) | refine aops_nil ?_ | refine lex_done _ rfl (by kernel_rfl) ?_ | refine aw_ct rfl ?_ | refine aw_cf rfl ?_ | refine aw_block ?_ | with_reducible refine then_n ?_ | refine aw_skip ?_ | refine aw_exit ?_ | (with_reducible first | refine then_x ?_ | refine then_r ?_ | refine block_x ?_ | refine block_n ?_ | refine block_r ?_) | refine aw_ret ?_
    have e : putV s r = { s with dfr := s.dfr ++ [r], pos := s.pos + 1 } := by unfold putV; rw [h]; rfl
    rw [e]
    refine And.intro rfl (sub_st [0, 1, 2, 3, 4, 5, s.runs.length + 1 + 9, 7, 8] (List.range' 9 s.runs.length) rfl (by simp) (psi_nodup (by simp <;> omega) (fun h hh => by simp at hh; omega)) (by repeat' first | exact HLes.nil | refine HLes.cons rfl rfl rfl rfl (les_refl (flat_noH _ _)) ?_ | refine HLes.cons rfl rfl rfl rfl (les_refl' rfl) ?_ | refine HLes.cons rfl rfl rfl rfl (les_nC (fun j hj => psi_at _ 9 _ j hj)) ?_ | refine HLes.cons (getB (get_last nR_l0)) rfl rfl rfl (les_refl (flat_noH _ _)) ?_ | refine HLes.cons (getB (get_last nR_l1)) rfl rfl rfl (les_refl (flat_noH _ _)) ?_ | refine HLes.cons (getB (get_last nR_l2)) rfl rfl rfl (les_refl (flat_noH _ _)) ?_ | refine HLes.cons (getB (get_last nR_l3)) rfl rfl rfl (les_refl (flat_noH _ _)) ?_ | refine HLes.cons (getB (app_left (get_last nR_l0))) rfl rfl rfl (les_refl (flat_noH _ _)) ?_ | refine HLes.cons (getB (app_left (get_last nR_l1))) rfl rfl rfl (les_refl (flat_noH _ _)) ?_ | refine HLes.cons (getB (app_left (get_last nR_l2))) rfl rfl rfl (les_refl (flat_noH _ _)) ?_ | refine HLes.cons (getB (app_left (get_last nR_l3))) rfl rfl rfl (les_refl (flat_noH _ _)) ?_ | refine HLes.cons (getB (app_left (app_left (get_last nR_l0)))) rfl rfl rfl (les_refl (flat_noH _ _)) ?_ | refine HLes.cons (getB (app_left (app_left (get_last nR_l1)))) rfl rfl rfl (les_refl (flat_noH _ _)) ?_ | refine HLes.cons (getB (app_left (app_left (get_last nR_l2)))) rfl rfl rfl (les_refl (flat_noH _ _)) ?_ | refine HLes.cons (getB (app_left (app_left (get_last nR_l3)))) rfl rfl rfl (les_refl (flat_noH _ _)) ?_ | refine HLes.cons rfl rfl rfl rfl (by repeat' first | exact les_nil | refine les_cons ?_ ?_ | exact le_any | exact le_refl rfl | exact le_sl rfl rfl | exact le_ptr rfl | exact le_sl rfl (by simp) | exact le_sl (congrArg some (by simp [nR_length] <;> omega)) rfl | exact le_k (congrArg _ (by assumption)) | exact le_k (congrArg _ (Eq.symm (by assumption)))) ?_) (fun j i x hi hx => by rw [ix9 hi]; exact get9 (app_left (app_left (nR_at hx)))) (by repeat' first | exact les_nil | refine les_cons ?_ ?_ | exact le_any | exact le_refl rfl | exact le_sl rfl rfl | exact le_ptr rfl | exact le_sl rfl (by simp) | exact le_sl (congrArg some (by simp [nR_length] <;> omega)) rfl | exact le_k (congrArg _ (by assumption)) | exact le_k (congrArg _ (Eq.symm (by assumption)))))
  · repeat' first | (refine isA ?_; refine do_R rfl (lit_of rfl rfl rfl rfl rfl) rfl ?_) | refine aw_seq ?_ | refine aw_region ?_ | refine aw_lex [] ?_ | (refine isA ?_; refine do_F rfl ?_) | (refine isL ?_; refine lex_F rfl (by kernel_rfl) rfl rfl ?_) | (refine isLg rfl ?_; refine lex_S rfl (by kernel_rfl) rfl rfl ?_) | (refine isAl (x := .tmp 9) ?_; refine do_R rfl (ld_box rfl rfl (get_last rfl) rfl rfl) rfl ?_) | (refine isLl (x := .tmp 9) rfl ?_; refine lex_R rfl (by kernel_rfl) rfl (ld_box rfl rfl (get_last rfl) rfl rfl) rfl ?_) | (refine isAp ?_; refine do_R rfl (ap_l (t := rwT) (xs := s.heap) (ys := [r]) rfl rfl rfl rfl (.lst _ _) (by simp; omega) rfl) rfl ?_) | (refine isLp rfl ?_; refine lex_R rfl (by kernel_rfl) rfl (ap_l (t := rwT) (xs := s.heap) (ys := [r]) rfl rfl rfl rfl (.lst _ _) (by simp; omega) rfl) rfl ?_) | refine aops_nil ?_ | refine lex_done _ rfl (by kernel_rfl) ?_ | refine aw_ct rfl ?_ | refine aw_cf rfl ?_ | refine aw_block ?_ | with_reducible refine then_n ?_ | refine aw_skip ?_ | refine aw_exit ?_ | (with_reducible first | refine then_x ?_ | refine then_r ?_ | refine block_x ?_ | refine block_n ?_ | refine block_r ?_) | refine aw_ret ?_
    have e : putV s r = { s with heap := s.heap ++ [r], pos := s.pos + 1 } := by unfold putV; rw [h]; rfl
    rw [e]
    refine And.intro rfl (sub_st [0, 1, 2, 3, 4, s.runs.length + 1 + 9, 6, 7, 8] (List.range' 9 s.runs.length) rfl (by simp) (psi_nodup (by simp <;> omega) (fun h hh => by simp at hh; omega)) (by repeat' first | exact HLes.nil | refine HLes.cons rfl rfl rfl rfl (les_refl (flat_noH _ _)) ?_ | refine HLes.cons rfl rfl rfl rfl (les_refl' rfl) ?_ | refine HLes.cons rfl rfl rfl rfl (les_nC (fun j hj => psi_at _ 9 _ j hj)) ?_ | refine HLes.cons (getB (get_last nR_l0)) rfl rfl rfl (les_refl (flat_noH _ _)) ?_ | refine HLes.cons (getB (get_last nR_l1)) rfl rfl rfl (les_refl (flat_noH _ _)) ?_ | refine HLes.cons (getB (get_last nR_l2)) rfl rfl rfl (les_refl (flat_noH _ _)) ?_ | refine HLes.cons (getB (get_last nR_l3)) rfl rfl rfl (les_refl (flat_noH _ _)) ?_ | refine HLes.cons (getB (app_left (get_last nR_l0))) rfl rfl rfl (les_refl (flat_noH _ _)) ?_ | refine HLes.cons (getB (app_left (get_last nR_l1))) rfl rfl rfl (les_refl (flat_noH _ _)) ?_ | refine HLes.cons (getB (app_left (get_last nR_l2))) rfl rfl rfl (les_refl (flat_noH _ _)) ?_ | refine HLes.cons (getB (app_left (get_last nR_l3))) rfl rfl rfl (les_refl (flat_noH _ _)) ?_ | refine HLes.cons (getB (app_left (app_left (get_last nR_l0)))) rfl rfl rfl (les_refl (flat_noH _ _)) ?_ | refine HLes.cons (getB (app_left (app_left (get_last nR_l1)))) rfl rfl rfl (les_refl (flat_noH _ _)) ?_ | refine HLes.cons (getB (app_left (app_left (get_last nR_l2)))) rfl rfl rfl (les_refl (flat_noH _ _)) ?_ | refine HLes.cons (getB (app_left (app_left (get_last nR_l3)))) rfl rfl rfl (les_refl (flat_noH _ _)) ?_ | refine HLes.cons rfl rfl rfl rfl (by repeat' first | exact les_nil | refine les_cons ?_ ?_ | exact le_any | exact le_refl rfl | exact le_sl rfl rfl | exact le_ptr rfl | exact le_sl rfl (by simp) | exact le_sl (congrArg some (by simp [nR_length] <;> omega)) rfl | exact le_k (congrArg _ (by assumption)) | exact le_k (congrArg _ (Eq.symm (by assumption)))) ?_) (fun j i x hi hx => by rw [ix9 hi]; exact get9 (app_left (app_left (nR_at hx)))) (by repeat' first | exact les_nil | refine les_cons ?_ ?_ | exact le_any | exact le_refl rfl | exact le_sl rfl rfl | exact le_ptr rfl | exact le_sl rfl (by simp) | exact le_sl (congrArg some (by simp [nR_length] <;> omega)) rfl | exact le_k (congrArg _ (by assumption)) | exact le_k (congrArg _ (Eq.symm (by assumption)))))
/-- Behind the test whether the next row is read: it is not. -/
abbrev T10 (s : So) (g : Int) : St := ⟨(.any :: (I g) :: (.ptr 0 0) :: .any :: (.ptr 1 0) :: .any :: .any :: (.ptr 2 0) :: (.sl 3 0 0) :: .any :: .any :: .any :: .any :: .any :: .any :: .any :: .any :: .any :: .any :: .any :: .any :: .any :: .any :: .any :: .any :: .any :: .any :: .any :: .any :: .any :: .any :: .any :: .any :: .any :: .any :: .any :: .any :: .any :: .any :: .any :: .any :: .any :: (B false) :: .any :: .any :: .any :: .any :: .any :: .any :: .any :: .any :: .any :: .any :: .any :: .any :: .any :: .any :: .any :: .any :: .any :: .any :: .any :: .any :: .any :: .any :: .any :: .any :: .any :: .any :: .any :: .any :: .any :: .any :: .any :: .any :: .any :: .any :: .any :: .any :: .any :: .any :: .any :: .any :: .any :: .any :: .any :: .any :: .any :: .any :: .any :: .any :: .any :: .any :: .any :: .any :: .any :: .any :: .any :: .any :: .any :: .any :: .any :: .any :: .any :: .any :: .any :: .any :: .any :: .any :: .any :: .any :: .any :: .any :: .any :: .any :: .any :: .any :: .any :: .any :: .any :: .any :: .any :: .any :: .any :: .any :: .any :: .any :: .any :: .any :: .any :: .any :: .any :: .any :: .any :: .any :: .any :: .any :: .any :: .any :: .any :: .any :: .any :: .any :: .any :: .any :: .any :: .any :: .any :: .any :: .any :: .any :: .any :: .any :: .any :: .any :: .any :: .any :: .any :: .any :: .any :: .any :: .any :: .any :: .any :: .any :: .any :: .any :: .any :: .any :: .any :: .any :: .any :: .any :: .any :: .any :: .any :: .any :: .any :: .any :: .any :: .any :: .any :: .any :: .any :: .any :: .any :: .any :: .any :: .any :: .any :: .any :: .any :: .any :: .any :: .any :: .any :: .any :: .any :: .any :: .any :: .any :: .any :: .any :: .any :: .any :: .any :: .any :: .any :: .any :: .any :: .any :: .any :: .any :: .any :: .any :: .any :: .any :: .any :: .any :: .any :: .any :: .any :: .any :: .any :: .any :: .any :: .any :: .any :: .any :: .any :: .any :: .any :: .any :: .any :: .any :: .any :: .any :: .any :: .any :: .any :: .any :: .any :: .any :: .any :: .any :: .any :: .any :: .any :: .any :: []), stH s s [], 0⟩
noncomputable def reg10 : Code := match midC with
  | .seq _ (.block _ (.seq _ (.cond _ (.block _ (.seq r _)) _))) => r
  | _ => .skip
theorem c_stuck (s : So) (g : Int) (hok : okSo s) (hb : VBa s) (hm : memV s ≤ 60) (hf : Stuck s g) : AW Go.Proofs.Try.prog reg10 (fun e S' => e = .normal ∧ Sub (T10 s g) S') ⟨(.any :: (I g) :: (.ptr 0 0) :: .any :: (.ptr 1 0) :: .any :: .any :: (.ptr 2 0) :: (.sl 3 0 0) :: .any :: .any :: .any :: .any :: .any :: .any :: .any :: .any :: .any :: .any :: .any :: .any :: .any :: .any :: .any :: .any :: .any :: .any :: .any :: .any :: .any :: .any :: .any :: (.ptr 2 8) :: (I s.ph) :: (B (decide (s.ph = 1))) :: (B (decide (s.ph = 1))) :: .any :: .any :: .any :: .any :: .any :: .any :: .any :: .any :: .any :: .any :: .any :: .any :: .any :: .any :: .any :: .any :: .any :: .any :: .any :: .any :: .any :: .any :: .any :: .any :: .any :: .any :: .any :: .any :: .any :: .any :: .any :: .any :: .any :: .any :: .any :: .any :: .any :: .any :: .any :: .any :: .any :: .any :: .any :: .any :: .any :: .any :: .any :: .any :: .any :: .any :: .any :: .any :: .any :: .any :: .any :: .any :: .any :: .any :: .any :: .any :: .any :: .any :: .any :: .any :: .any :: .any :: .any :: .any :: .any :: .any :: .any :: .any :: .any :: .any :: .any :: .any :: .any :: .any :: .any :: .any :: .any :: .any :: .any :: .any :: .any :: .any :: .any :: .any :: .any :: .any :: .any :: .any :: .any :: .any :: .any :: .any :: .any :: .any :: .any :: .any :: .any :: .any :: .any :: .any :: .any :: .any :: .any :: .any :: .any :: .any :: .any :: .any :: .any :: .any :: .any :: .any :: .any :: .any :: .any :: .any :: .any :: .any :: .any :: .any :: .any :: .any :: .any :: .any :: .any :: .any :: .any :: .any :: .any :: .any :: .any :: .any :: .any :: .any :: .any :: .any :: .any :: .any :: .any :: .any :: .any :: .any :: .any :: .any :: .any :: .any :: .any :: .any :: .any :: .any :: .any :: .any :: .any :: .any :: .any :: .any :: .any :: .any :: .any :: .any :: .any :: .any :: .any :: .any :: .any :: .any :: .any :: .any :: .any :: .any :: .any :: .any :: .any :: .any :: .any :: .any :: .any :: .any :: .any :: .any :: .any :: .any :: .any :: .any :: .any :: .any :: .any :: .any :: .any :: .any :: .any :: .any :: .any :: .any :: .any :: .any :: .any :: .any :: .any :: .any :: .any :: .any :: .any :: .any :: .any :: .any :: .any :: .any :: .any :: []), stH s s [], 0⟩ := by
  obtain ⟨p, hpp, hple⟩ := hb.pos
  have e1 : s.pos.toNat = p := by omega
  have g3 := hok.input
  have am := c_imem s hok
  repeat' first | refine aw_seq ?_ | refine aw_region ?_ | refine aw_lex [] ?_ | (refine isA ?_; refine do_F rfl ?_) | (refine isL ?_; refine lex_F rfl (by kernel_rfl) rfl rfl ?_) | (refine isLg rfl ?_; refine lex_S rfl (by kernel_rfl) rfl rfl ?_) | refine aops_nil ?_ | refine lex_done _ rfl (by kernel_rfl) ?_ | refine aw_ct rfl ?_ | refine aw_cf rfl ?_ | refine aw_block ?_ | with_reducible refine then_n ?_ | refine aw_skip ?_ | refine aw_exit ?_ | (with_reducible first | refine then_x ?_ | refine then_r ?_ | refine block_x ?_ | refine block_n ?_ | refine block_r ?_) | refine aw_ret ?_
  refine lex_br rfl rfl rfl rfl (fun h => ?_) (fun h => ?_)
  · have hlt : p < s.input.length := by have := of_decide_eq_true h; omega
    obtain ⟨z, hz⟩ : ∃ z, s.input[p]? = some z := ⟨_, List.getElem?_eq_getElem hlt⟩
    have hfz := hf z (by rw [e1]; exact hz)
    have hd : decide (IntKind.i64.wrap (memV s + costV z) ≤ g) = false := by rw [memsum hm]; exact decide_eq_false (by omega)
    repeat' first | refine aw_seq ?_ | refine aw_region ?_ | refine aw_lex [] ?_ | (refine isA ?_; refine do_F rfl ?_) | (refine isL ?_; refine lex_F rfl (by kernel_rfl) rfl rfl ?_) | (refine isLg rfl ?_; refine lex_S rfl (by kernel_rfl) rfl rfl ?_) | (refine isAc 19 ?_; refine do_R rfl (st_call rfl am (.cons (pur_so rfl rfl rfl rfl rfl fun j x hx => get9 (nR_at hx)) .nil) rfl) rfl ?_) | (refine isLc 19 rfl ?_; refine lex_R rfl (by kernel_rfl) rfl (st_call rfl am (.cons (pur_so rfl rfl rfl rfl rfl fun j x hx => get9 (nR_at hx)) .nil) rfl) rfl ?_) | (refine isAi (x := .tmp 53) ?_; refine do_R rfl (step_ia_sl (j := s.pos) rfl rfl rfl (Nat.zero_le _) rfl rfl (by omega) (by omega)) rfl ?_) | (refine isLi (x := .tmp 53) rfl ?_; refine lex_R rfl (by kernel_rfl) rfl (step_ia_sl (j := s.pos) rfl rfl rfl (Nat.zero_le _) rfl rfl (by omega) (by omega)) rfl ?_) | (refine isAl (x := .tmp 56) ?_; refine do_R rfl (ld_a (T := rwT) (i := 0 + s.pos.toNat) (z := z) rfl rfl rfl (by rw [Nat.zero_add, e1]; exact hz)) rfl ?_) | (refine isLl (x := .tmp 56) rfl ?_; refine lex_R rfl (by kernel_rfl) rfl (ld_a (T := rwT) (i := 0 + s.pos.toNat) (z := z) rfl rfl rfl (by rw [Nat.zero_add, e1]; exact hz)) rfl ?_) | (refine isAc 58 ?_; refine do_R rfl (st_call rfl (c_irc z) (.cons (.same rfl) .nil) rfl) rfl ?_) | (refine isLc 58 rfl ?_; refine lex_R rfl (by kernel_rfl) rfl (st_call rfl (c_irc z) (.cons (.same rfl) .nil) rfl) rfl ?_) | refine aops_nil ?_ | refine lex_done _ rfl (by kernel_rfl) ?_ | refine aw_ct rfl ?_ | refine aw_cf rfl ?_ | refine aw_block ?_ | with_reducible refine then_n ?_ | refine aw_skip ?_ | refine aw_exit ?_ | (with_reducible first | refine then_x ?_ | refine then_r ?_ | refine block_x ?_ | refine block_n ?_ | refine block_r ?_) | refine aw_ret ?_
    exact ⟨rfl, sub_st [0, 1, 2, 3, 4, 5, 6, 7, 8] (List.range' 9 s.runs.length) rfl (by simp) (psi_nodup (by simp <;> omega) (fun h hh => by simp at hh; omega)) (by repeat' first | exact HLes.nil | refine HLes.cons rfl rfl rfl rfl (les_refl (flat_noH _ _)) ?_ | refine HLes.cons rfl rfl rfl rfl (les_refl' rfl) ?_ | refine HLes.cons rfl rfl rfl rfl (les_nC (fun j hj => psi_at _ 9 _ j hj)) ?_ | refine HLes.cons (getB (get_last nR_l0)) rfl rfl rfl (les_refl (flat_noH _ _)) ?_ | refine HLes.cons (getB (get_last nR_l1)) rfl rfl rfl (les_refl (flat_noH _ _)) ?_ | refine HLes.cons (getB (get_last nR_l2)) rfl rfl rfl (les_refl (flat_noH _ _)) ?_ | refine HLes.cons (getB (get_last nR_l3)) rfl rfl rfl (les_refl (flat_noH _ _)) ?_ | refine HLes.cons (getB (app_left (get_last nR_l0))) rfl rfl rfl (les_refl (flat_noH _ _)) ?_ | refine HLes.cons (getB (app_left (get_last nR_l1))) rfl rfl rfl (les_refl (flat_noH _ _)) ?_ | refine HLes.cons (getB (app_left (get_last nR_l2))) rfl rfl rfl (les_refl (flat_noH _ _)) ?_ | refine HLes.cons (getB (app_left (get_last nR_l3))) rfl rfl rfl (les_refl (flat_noH _ _)) ?_ | refine HLes.cons (getB (app_left (app_left (get_last nR_l0)))) rfl rfl rfl (les_refl (flat_noH _ _)) ?_ | refine HLes.cons (getB (app_left (app_left (get_last nR_l1)))) rfl rfl rfl (les_refl (flat_noH _ _)) ?_ | refine HLes.cons (getB (app_left (app_left (get_last nR_l2)))) rfl rfl rfl (les_refl (flat_noH _ _)) ?_ | refine HLes.cons (getB (app_left (app_left (get_last nR_l3)))) rfl rfl rfl (les_refl (flat_noH _ _)) ?_ | refine HLes.cons rfl rfl rfl rfl (by repeat' first | exact les_nil | refine les_cons ?_ ?_ | exact le_any | exact le_refl rfl | exact le_sl rfl rfl | exact le_ptr rfl | exact le_sl rfl (by simp) | exact le_sl (congrArg some (by simp [nR_length] <;> omega)) rfl | exact le_k (congrArg _ (by assumption)) | exact le_k (congrArg _ (Eq.symm (by assumption)))) ?_) (fun j i x hi hx => by rw [ix9 hi]; exact get9 (nR_at hx)) (by repeat' first | exact les_nil | refine les_cons ?_ ?_ | exact le_any | exact le_refl rfl | exact le_sl rfl rfl | exact le_ptr rfl | exact le_sl rfl (by simp) | exact le_sl (congrArg some (by simp [nR_length] <;> omega)) rfl | exact le_k (congrArg _ (by assumption)) | exact le_k (congrArg _ (Eq.symm (by assumption))))⟩
  · repeat' first | refine aw_seq ?_ | refine aw_region ?_ | refine aw_lex [] ?_ | (refine isA ?_; refine do_F rfl ?_) | (refine isL ?_; refine lex_F rfl (by kernel_rfl) rfl rfl ?_) | (refine isLg rfl ?_; refine lex_S rfl (by kernel_rfl) rfl rfl ?_) | refine aops_nil ?_ | refine lex_done _ rfl (by kernel_rfl) ?_ | refine aw_ct rfl ?_ | refine aw_cf rfl ?_ | refine aw_block ?_ | with_reducible refine then_n ?_ | refine aw_skip ?_ | refine aw_exit ?_ | (with_reducible first | refine then_x ?_ | refine then_r ?_ | refine block_x ?_ | refine block_n ?_ | refine block_r ?_) | refine aw_ret ?_
    exact ⟨rfl, sub_st [0, 1, 2, 3, 4, 5, 6, 7, 8] (List.range' 9 s.runs.length) rfl (by simp) (psi_nodup (by simp <;> omega) (fun h hh => by simp at hh; omega)) (by repeat' first | exact HLes.nil | refine HLes.cons rfl rfl rfl rfl (les_refl (flat_noH _ _)) ?_ | refine HLes.cons rfl rfl rfl rfl (les_refl' rfl) ?_ | refine HLes.cons rfl rfl rfl rfl (les_nC (fun j hj => psi_at _ 9 _ j hj)) ?_ | refine HLes.cons (getB (get_last nR_l0)) rfl rfl rfl (les_refl (flat_noH _ _)) ?_ | refine HLes.cons (getB (get_last nR_l1)) rfl rfl rfl (les_refl (flat_noH _ _)) ?_ | refine HLes.cons (getB (get_last nR_l2)) rfl rfl rfl (les_refl (flat_noH _ _)) ?_ | refine HLes.cons (getB (get_last nR_l3)) rfl rfl rfl (les_refl (flat_noH _ _)) ?_ | refine HLes.cons (getB (app_left (get_last nR_l0))) rfl rfl rfl (les_refl (flat_noH _ _)) ?_ | refine HLes.cons (getB (app_left (get_last nR_l1))) rfl rfl rfl (les_refl (flat_noH _ _)) ?_ | refine HLes.cons (getB (app_left (get_last nR_l2))) rfl rfl rfl (les_refl (flat_noH _ _)) ?_ | refine HLes.cons (getB (app_left (get_last nR_l3))) rfl rfl rfl (les_refl (flat_noH _ _)) ?_ | refine HLes.cons (getB (app_left (app_left (get_last nR_l0)))) rfl rfl rfl (les_refl (flat_noH _ _)) ?_ | refine HLes.cons (getB (app_left (app_left (get_last nR_l1)))) rfl rfl rfl (les_refl (flat_noH _ _)) ?_ | refine HLes.cons (getB (app_left (app_left (get_last nR_l2)))) rfl rfl rfl (les_refl (flat_noH _ _)) ?_ | refine HLes.cons (getB (app_left (app_left (get_last nR_l3)))) rfl rfl rfl (les_refl (flat_noH _ _)) ?_ | refine HLes.cons rfl rfl rfl rfl (by repeat' first | exact les_nil | refine les_cons ?_ ?_ | exact le_any | exact le_refl rfl | exact le_sl rfl rfl | exact le_ptr rfl | exact le_sl rfl (by simp) | exact le_sl (congrArg some (by simp [nR_length] <;> omega)) rfl | exact le_k (congrArg _ (by assumption)) | exact le_k (congrArg _ (Eq.symm (by assumption)))) ?_) (fun j i x hi hx => by rw [ix9 hi]; exact get9 (nR_at hx)) (by repeat' first | exact les_nil | refine les_cons ?_ ?_ | exact le_any | exact le_refl rfl | exact le_sl rfl rfl | exact le_ptr rfl | exact le_sl rfl (by simp) | exact le_sl (congrArg some (by simp [nR_length] <;> omega)) rfl | exact le_k (congrArg _ (by assumption)) | exact le_k (congrArg _ (Eq.symm (by assumption))))⟩
theorem c_pop (s : So) (g : Int) (k : Nat) (r : Rw) (hok : okSo s) (hb : VBa s) (hm : memV s ≤ 60) (hp : s.ph = 1) (hf : Stuck s g) (hh : 0 < s.heap.length) (hk : minV s.heap = (k : Nat)) (hr : s.heap[k]? = some r) : AW Go.Proofs.Try.prog midC (stQ s (popV s k r) g []) (stT s s g []) := by
  obtain ⟨p, hpp, hple⟩ := hb.pos
  have e1 : s.pos.toNat = p := by omega
  have hlt := (List.getElem?_eq_some_iff.1 hr).1
  have g1 := hok.heap
  have g2 := hok.dfr
  have g3 := hok.input
  have g4 := hok.out
  have am := c_imem s hok
  have ai := c_imin s.heap (by omega)
  rw [hk] at ai
  repeat' first | (refine aw_cond rfl (fun _ => ?_) (fun h => absurd hp (of_decide_eq_false h))) | (refine aw_joinR 10 (T10 s g) (unhold ?_) ?_) | (refine do_br rfl rfl (fun h => absurd (of_decide_eq_true h) (by omega)) (fun _ => ?_)) | (refine aw_cond rfl (fun _ => ?_) (fun h => absurd (of_decide_eq_false h) (by omega))) | (refine isA ?_; refine do_R rfl (lit_of rfl rfl rfl rfl rfl) rfl ?_) | refine aw_seq ?_ | refine aw_region ?_ | refine aw_lex [6] ?_ | (refine isA ?_; refine do_F rfl ?_) | (refine isL ?_; refine lex_F rfl (by kernel_rfl) rfl rfl ?_) | (refine isLg rfl ?_; refine lex_S rfl (by kernel_rfl) rfl rfl ?_) | (refine isAc 61 ?_; refine do_R rfl (st_call rfl ai (.cons (pur_row rfl) .nil) rfl) rfl ?_) | (refine isLc 61 rfl ?_; refine lex_R rfl (by kernel_rfl) rfl (st_call rfl ai (.cons (pur_row rfl) .nil) rfl) rfl ?_) | (refine isAi (x := .tmp 114) ?_; refine do_R rfl (step_ia_sl (j := (k : Int)) rfl rfl rfl (Nat.zero_le _) rfl rfl (Int.natCast_nonneg _) (by omega)) rfl ?_) | (refine isLi (x := .tmp 114) rfl ?_; refine lex_R rfl (by kernel_rfl) rfl (step_ia_sl (j := (k : Int)) rfl rfl rfl (Nat.zero_le _) rfl rfl (Int.natCast_nonneg _) (by omega)) rfl ?_) | (refine isAl (x := .tmp 116) ?_; refine do_R rfl (ld_a (T := rwT) (i := 0 + k) (z := r) rfl rfl rfl (by rw [Nat.zero_add]; exact hr)) rfl ?_) | (refine isLl (x := .tmp 116) rfl ?_; refine lex_R rfl (by kernel_rfl) rfl (ld_a (T := rwT) (i := 0 + k) (z := r) rfl rfl rfl (by rw [Nat.zero_add]; exact hr)) rfl ?_) | (refine isAs (x := .tmp 11) ?_; refine do_R rfl (st_box rfl rfl rfl rfl rfl (rwE_one r) rfl rfl) rfl ?_) | (refine isLs (x := .tmp 11) rfl ?_; refine lex_R rfl (by kernel_rfl) rfl (st_box rfl rfl rfl rfl rfl (rwE_one r) rfl rfl) rfl ?_) | (refine isAc 62 ?_; refine do_R rfl (st_callK rfl (c_taken s.heap k hlt (by omega)) (.cons (pur_row rfl) (.cons (.same rfl) .nil)) (fun q hq => by simp at hq; subst hq; exact flat_noH _ _) rfl rfl) rfl ?_) | (refine isLc 62 rfl ?_; refine lex_R rfl (by kernel_rfl) rfl (st_callK rfl (c_taken s.heap k hlt (by omega)) (.cons (pur_row rfl) (.cons (.same rfl) .nil)) (fun q hq => by simp at hq; subst hq; exact flat_noH _ _) rfl rfl) rfl ?_) | (refine isAl (x := .tmp 11) ?_; refine do_R rfl (ld_box rfl rfl (getB (j := (nR rwT 78 s.runs).length) (app_left (get_last rfl))) rfl rfl) rfl ?_) | (refine isLl (x := .tmp 11) rfl ?_; refine lex_R rfl (by kernel_rfl) rfl (ld_box rfl rfl (getB (j := (nR rwT 78 s.runs).length) (app_left (get_last rfl))) rfl rfl) rfl ?_) | (refine isAl (x := .tmp 11) ?_; refine do_R rfl (ld_box rfl rfl (getB (j := (nR rwT 78 s.runs).length) (app_left (app_left (get_last rfl)))) rfl rfl) rfl ?_) | (refine isLl (x := .tmp 11) rfl ?_; refine lex_R rfl (by kernel_rfl) rfl (ld_box rfl rfl (getB (j := (nR rwT 78 s.runs).length) (app_left (app_left (get_last rfl)))) rfl rfl) rfl ?_) | (refine isAp ?_; refine do_R rfl (ap_l (t := rwT) (xs := s.out) (ys := [r]) rfl rfl rfl rfl (.lst _ _) (by simp; omega) rfl) rfl ?_) | (refine isLp rfl ?_; refine lex_R rfl (by kernel_rfl) rfl (ap_l (t := rwT) (xs := s.out) (ys := [r]) rfl rfl rfl rfl (.lst _ _) (by simp; omega) rfl) rfl ?_) | (refine isAc 58 ?_; refine do_R rfl (st_call rfl (c_irc r) (.cons (.same rfl) .nil) rfl) rfl ?_) | (refine isLc 58 rfl ?_; refine lex_R rfl (by kernel_rfl) rfl (st_call rfl (c_irc r) (.cons (.same rfl) .nil) rfl) rfl ?_) | (refine isL ?_; refine lex_WF rfl (by kernel_rfl) rfl rfl ?_) | refine aops_nil ?_ | refine lex_done _ rfl (by kernel_rfl) ?_ | refine aw_ct rfl ?_ | refine aw_cf rfl ?_ | refine aw_block ?_ | with_reducible refine then_n ?_ | refine aw_skip ?_ | refine aw_exit ?_ | (with_reducible first | refine then_x ?_ | refine then_r ?_ | refine block_x ?_ | refine block_n ?_ | refine block_r ?_) | refine aw_ret ?_
  · exact hold (c_stuck s g hok hb hm hf)
  · refine And.intro rfl (sub_st [0, 1, 2, 3, 4, s.runs.length + 1 + 9, 6, s.runs.length + 2 + 9, 8] (List.range' 9 s.runs.length) rfl (by simp [popV]) (psi_nodup (by simp <;> omega) (fun h hh => by simp at hh; omega)) (by repeat' first | exact HLes.nil | refine HLes.cons rfl rfl rfl rfl (les_refl (flat_noH _ _)) ?_ | refine HLes.cons rfl rfl rfl rfl (les_refl' rfl) ?_ | refine HLes.cons rfl rfl rfl rfl (les_nC (fun j hj => psi_at _ 9 _ j hj)) ?_ | refine HLes.cons (getB (get_last nR_l0)) rfl rfl rfl (les_refl (flat_noH _ _)) ?_ | refine HLes.cons (getB (get_last nR_l1)) rfl rfl rfl (les_refl (flat_noH _ _)) ?_ | refine HLes.cons (getB (get_last nR_l2)) rfl rfl rfl (les_refl (flat_noH _ _)) ?_ | refine HLes.cons (getB (get_last nR_l3)) rfl rfl rfl (les_refl (flat_noH _ _)) ?_ | refine HLes.cons (getB (app_left (get_last nR_l0))) rfl rfl rfl (les_refl (flat_noH _ _)) ?_ | refine HLes.cons (getB (app_left (get_last nR_l1))) rfl rfl rfl (les_refl (flat_noH _ _)) ?_ | refine HLes.cons (getB (app_left (get_last nR_l2))) rfl rfl rfl (les_refl (flat_noH _ _)) ?_ | refine HLes.cons (getB (app_left (get_last nR_l3))) rfl rfl rfl (les_refl (flat_noH _ _)) ?_ | refine HLes.cons (getB (app_left (app_left (get_last nR_l0)))) rfl rfl rfl (les_refl (flat_noH _ _)) ?_ | refine HLes.cons (getB (app_left (app_left (get_last nR_l1)))) rfl rfl rfl (les_refl (flat_noH _ _)) ?_ | refine HLes.cons (getB (app_left (app_left (get_last nR_l2)))) rfl rfl rfl (les_refl (flat_noH _ _)) ?_ | refine HLes.cons (getB (app_left (app_left (get_last nR_l3)))) rfl rfl rfl (les_refl (flat_noH _ _)) ?_ | refine HLes.cons rfl rfl rfl rfl (by repeat' first | exact les_nil | refine les_cons ?_ ?_ | exact le_any | exact le_refl rfl | exact le_sl rfl rfl | exact le_ptr rfl | exact le_sl rfl (by simp) | exact le_sl (congrArg some (by simp [nR_length] <;> omega)) rfl | exact le_k (congrArg _ (by assumption)) | exact le_k (congrArg _ (Eq.symm (by assumption)))) ?_) (fun j i x hi hx => by rw [ix9 hi]; exact get9 (app_left (app_left (app_left (nR_at hx))))) (by repeat' first | exact les_nil | refine les_cons ?_ ?_ | exact le_any | exact le_refl rfl | exact le_sl rfl rfl | exact le_ptr rfl | exact le_sl rfl (by simp) | exact le_sl (congrArg some (by simp [nR_length] <;> omega)) rfl | exact le_k (congrArg _ (by assumption)) | exact le_k (congrArg _ (Eq.symm (by assumption)))))
end Go.Proofs.Ytojcojanokhnaaa.Ab

/- SsD -/
namespace Go.Proofs.Ytojcojanokhnaaa.Ab
open Go.RowKit

theorem ap_c {o : Oper} {ρ : Operand → V} {H : List Reg} {h hz : Nat} {v : V} {s x : Operand} {cells : List V} (ho : o.op = .call { callee := .builtin .append, args := #[s, x], argTypes := #[25, 25] })
    (hs : ρ s = .sl h 0 cells.length) (hH : H[h]? = some ⟨84, 1, cells, 0⟩) (hx : ρ x = .sl hz 0 1) (hzz : H[hz]? = some ⟨84, 1, [v], 0⟩) (hv : oneV v = true) (hl : cells.length ≤ 100000000) :
    Step Go.Proofs.Try.prog o ρ H (.sl H.length 0 (cells.length + 1)) (H.set h ⟨84, 1, cells, 2⟩ ++ [⟨84, 1, cells ++ [v], 0⟩]) := by
  have hsrc : Src H (ρ x) 1 [v] := by
    rw [hx]
    exact Src.sl (H := H) (off := 0) (m := 1) (r := ⟨84, 1, [v], 0⟩) hzz (Nat.zero_le _) (Nat.le_refl _)
  have := step_append (P := Go.Proofs.Try.prog) (ρ := ρ) (ty := 25) (m := 1) ho hs hH rfl rfl rfl (by show cells.length * 1 ≤ cells.length; omega) hsrc rfl (fun c hc => by simp at hc; subst hc; exact hv) (by omega) (by simp only [maxLen]; omega)
  have e1 : (⟨84, 1, cells, 0⟩ : Reg).cells.take (cells.length * 1) = cells := by
    show cells.take _ = _
    rw [List.take_of_length_le (by omega)]
  rw [e1] at this
  exact this
/-- The rows behind a run's end: the sorter's lists 7 and 8 in a new outer list. -/
theorem c_endrun (a0 a1 a3 a4 a5 a6 : Reg) (c0 c1 c2 c3 c6 c7 c8 c9 : V) (out : List Rw) (cells : List V) (n : Nat) (hn : cells.length = n) (L : List Reg) (hl : n ≤ 100000000) :
    Meets Go.Proofs.Try.prog 60 [.ptr 2 0] (a0 :: a1 :: bxS [c0, c1, c2, c3, .sl 7 0 out.length, .sl 8 0 n, c6, c7, c8, c9] :: a3 :: a4 :: a5 :: a6 :: rwR out :: ⟨84, 1, cells, 0⟩ :: L) (.tup [])
      (a0 :: a1 :: bxS [c0, c1, c2, c3, nilV, .sl ((L ++ [(⟨84, 1, [.sl 7 0 out.length], 0⟩ : Reg)]).length + 9) 0 (n + 1), c6, c7, c8, c9] :: a3 :: a4 :: a5 :: a6 :: rwR out :: ⟨84, 1, cells, 2⟩ :: (L ++ [⟨84, 1, [.sl 7 0 out.length], 0⟩] ++ [⟨84, 1, cells ++ [.sl 7 0 out.length], 0⟩])) true := by
  subst hn
  refine meets_of [] Go.Proofs.Try.func60 rfl rfl ?_
  simp only [Go.Proofs.Try.ntmps60, List.length_cons, List.length_nil, Nat.reduceAdd, Nat.reduceSub, List.replicate_succ, List.replicate_zero, List.cons_append, List.nil_append]
  repeat' first | refine aw_seq ?_ | refine aw_region ?_ | (refine isA ?_; refine do_F rfl ?_) | (refine isL ?_; refine lex_F rfl (by kernel_rfl) rfl rfl ?_) | (refine isLg rfl ?_; refine lex_S rfl (by kernel_rfl) rfl rfl ?_) | refine aops_nil ?_ | refine lex_done _ rfl (by kernel_rfl) ?_ | refine aw_ct rfl ?_ | refine aw_cf rfl ?_ | refine aw_block ?_ | with_reducible refine then_n ?_ | refine aw_skip ?_ | refine aw_exit ?_ | (with_reducible first | refine then_x ?_ | refine then_r ?_ | refine block_x ?_ | refine block_n ?_ | refine block_r ?_) | refine aw_ret ?_
  refine aw_perS 14 (fun H => H[2]? = some (bxS [c0, c1, c2, c3, .sl 7 0 out.length, .sl 8 0 cells.length, c6, c7, c8, c9])) 15 rfl ?_
  refine perS_P 0 (Or.inr rfl) rfl rfl (by kernel_rfl) rfl (fun _ => rfl) rfl ?_
  refine perS_P 1 (Or.inr rfl) rfl rfl (by kernel_rfl) rfl (fun _ => rfl) rfl ?_
  refine perS_P 2 (Or.inr rfl) rfl rfl (by kernel_rfl) rfl (fun _ => rfl) rfl ?_
  refine perS_P 3 (Or.inr rfl) rfl rfl (by kernel_rfl) rfl (fun _ => rfl) rfl ?_
  refine perS_R 4 rfl (by kernel_rfl) rfl (by kernel_rfl) rfl (fun _ hG => rd_sc rfl rfl hG rfl rfl) rfl ?_
  refine perS_P 5 (Or.inr rfl) rfl rfl (by kernel_rfl) rfl (fun _ => rfl) rfl ?_
  refine perS_P 6 (Or.inr rfl) rfl rfl (by kernel_rfl) rfl (fun _ => rfl) rfl ?_
  refine perS_P 7 (Or.inr rfl) rfl rfl (by kernel_rfl) rfl (fun _ => rfl) rfl ?_
  refine perS_R 8 rfl (by kernel_rfl) rfl (by kernel_rfl) rfl (fun _ hG => rd_sc rfl rfl hG rfl rfl) rfl ?_
  refine perS_P 9 (Or.inr rfl) rfl rfl (by kernel_rfl) rfl (fun _ => rfl) rfl ?_
  refine perS_WF 10 (by kernel_rfl) rfl rfl rfl (Or.inr rfl) rfl ?_
  refine perS_W 11 (by kernel_rfl) rfl rfl (ap_c rfl rfl rfl rfl (get_last rfl) rfl hl) (Or.inr rfl) rfl ?_
  refine perS_P 12 (Or.inr rfl) rfl rfl (by kernel_rfl) rfl (fun _ => rfl) rfl ?_
  refine perS_P 13 (Or.inr rfl) rfl rfl (by kernel_rfl) rfl (fun _ => rfl) rfl ?_
  refine perS_WF 14 (by kernel_rfl) rfl rfl rfl (Or.inl (by kernel_rfl)) rfl ?_
  refine perS_done (by kernel_rfl) ?_
  repeat' first | refine aw_seq ?_ | refine aw_region ?_ | refine aw_lex [] ?_ | (refine isA ?_; refine do_F rfl ?_) | (refine isL ?_; refine lex_F rfl (by kernel_rfl) rfl rfl ?_) | (refine isLg rfl ?_; refine lex_S rfl (by kernel_rfl) rfl rfl ?_) | refine aops_nil ?_ | refine lex_done _ rfl (by kernel_rfl) ?_ | refine aw_ct rfl ?_ | refine aw_cf rfl ?_ | refine aw_block ?_ | with_reducible refine then_n ?_ | refine aw_skip ?_ | refine aw_exit ?_ | (with_reducible first | refine then_x ?_ | refine then_r ?_ | refine block_x ?_ | refine block_n ?_ | refine block_r ?_) | refine aw_ret ?_
  exact fin_v (Or.inr rfl) rfl
/-- The next phase: what is merged, handed out, or done. -/
theorem c_next (a0 a1 : Reg) (c0 c1 c2 c3 c4 c6 c7 c8 c9 : V) (h5 o5 n5 : Nat) (L : List Reg) :
    Meets Go.Proofs.Try.prog 63 [.ptr 2 0] (a0 :: a1 :: bxS [c0, c1, c2, c3, c4, .sl h5 o5 n5, c6, c7, c8, c9] :: L) (.tup [])
      (a0 :: a1 :: bxS [c0, c1, c2, c3, c4, .sl h5 o5 n5, I 0, I 0, I (cond (decide (n5 = 0)) 4 (cond (decide (n5 = 1)) 3 2)), c9] :: L) true := by
  have e0 : decide (n5 = 0) = decide ((n5 : Int) = 0) := decide_eq_decide.2 (by omega)
  have e1 : decide (n5 = 1) = decide ((n5 : Int) = 1) := decide_eq_decide.2 (by omega)
  rw [e0, e1]
  refine meets_of [] Go.Proofs.Try.func63 rfl rfl ?_
  simp only [Go.Proofs.Try.ntmps63, List.length_cons, List.length_nil, Nat.reduceAdd, Nat.reduceSub, List.replicate_succ, List.replicate_zero, List.cons_append, List.nil_append]
  repeat' first | refine aw_seq ?_ | refine aw_region ?_ | refine aw_lex [] ?_ | (refine isA ?_; refine do_F rfl ?_) | (refine isL ?_; refine lex_F rfl (by kernel_rfl) rfl rfl ?_) | (refine isLg rfl ?_; refine lex_S rfl (by kernel_rfl) rfl rfl ?_) | refine aops_nil ?_ | refine lex_done _ rfl (by kernel_rfl) ?_ | refine aw_ct rfl ?_ | refine aw_cf rfl ?_ | refine aw_block ?_ | with_reducible refine then_n ?_ | refine aw_skip ?_ | refine aw_exit ?_ | (with_reducible first | refine then_x ?_ | refine then_r ?_ | refine block_x ?_ | refine block_n ?_ | refine block_r ?_) | refine aw_ret ?_ | refine aw_cond rfl (fun hbr => ?_) (fun hbr => ?_)
  all_goals (refine fin_v (Or.inr rfl) ?_; simp only [*, cond_true, cond_false])
end Go.Proofs.Ytojcojanokhnaaa.Ab

/- SsE -/
namespace Go.Proofs.Ytojcojanokhnaaa.Ab
open Go.RowKit

theorem les_push {ψ hs : List Nat} {rs : List Rn} {z : Rn} {k : Nat} (hψ : ψ = hs ++ (List.range' 9 rs.length ++ [k])) (h9 : hs.length = 9) : Les ψ (nC 9 (rs ++ [z])) (nC 9 rs ++ [.sl k 0 z.length]) := by
  have e : nC 9 rs ++ [.sl k 0 z.length] = nX (List.range' 9 rs.length ++ [k]) (rs ++ [z]) := by
    rw [nX_app (by simp), nC_nX]; rfl
  rw [e]
  refine les_nX (by simp) fun j hj => ?_
  rw [hψ, ← h9, psi_ix]
theorem rows_push {H : List Reg} {rs : List Rn} {z : Rn} {k : Nat} (hR : ∀ j x, rs[j]? = some x → H[9 + j]? = some (rwR x)) (hz : H[k]? = some (rwR z)) : ∀ (j i : Nat) (x : Rn), (List.range' 9 rs.length ++ [k])[j]? = some i → (rs ++ [z])[j]? = some x → H[i]? = some (rwR x) := fun j i x hi hx => by
  rcases Nat.lt_or_ge j rs.length with h | h
  · rw [List.getElem?_append_left (by simpa using h)] at hi
    rw [List.getElem?_append_left h] at hx
    rw [ix9 hi]
    exact hR j x hx
  · rw [List.getElem?_append_right h] at hx
    rw [List.getElem?_append_right (by simpa using h), List.length_range'] at hi
    cases hj : j - rs.length with
    | zero =>
      rw [hj] at hi hx
      cases hi
      cases hx
      exact hz
    | succ q =>
      rw [hj] at hx
      simp at hx
theorem nodup_push {hs : List Nat} {n k : Nat} (h1 : (k :: hs).Nodup) (h2 : ∀ h ∈ k :: hs, h < 9 ∨ 9 + n ≤ h) : (hs ++ (List.range' 9 n ++ [k])).Nodup := by
  rw [List.nodup_cons] at h1
  rw [List.nodup_append]
  refine ⟨h1.2, ?_, fun x hx y hy => ?_⟩
  · rw [List.nodup_append]
    refine ⟨List.nodup_range', by simp, fun x hx y hy => ?_⟩
    rw [List.mem_range'_1] at hx
    simp at hy
    have := h2 k (by simp)
    omega
  · rw [List.mem_append, List.mem_range'_1, List.mem_singleton] at hy
    have := h2 x (by simp [hx])
    rcases hy with hy | hy
    · omega
    · rintro rfl
      subst hy
      exact h1.1 hx
theorem nR_l4 {rs : List Rn} {e : TypeId} {N M O U : Reg} : (nR rwT e rs ++ [N] ++ [M] ++ [O] ++ [U]).length = rs.length + 4 := by simp [nR_length]

theorem c_swap (s : So) (g : Int) (hok : okSo s) (hb : VBa s) (hm : memV s ≤ 60) (hp : s.ph = 1) (hf : Stuck s g) (hh : s.heap = []) (hd : 0 < s.dfr.length) : AW Go.Proofs.Try.prog midC (stQ s (swapV s) g []) (stT s s g []) := by
  have g2 := hok.dfr
  have g4 := hok.out
  have g5 := hok.runs
  have hh0 : s.heap.length = 0 := by rw [hh]; rfl
  have ae := c_endrun (bxS (soE s)) (bxS zS) (rwR []) (rwR s.input) (rwR s.heap) (rwR s.dfr) (.sl 4 0 s.input.length) (I s.pos) (.sl 5 0 s.heap.length) (.sl 6 0 s.dfr.length) (I s.lp) (I s.rp) (I s.ph) (I s.wr) s.out (nC 9 s.runs) s.runs.length (nC_length _ _) (nR rwT 78 s.runs) (by omega)
  repeat' first | (refine aw_cond rfl (fun _ => ?_) (fun h => absurd hp (of_decide_eq_false h))) | (refine aw_joinR 10 (T10 s g) (unhold ?_) ?_) | (refine do_br rfl rfl (fun _ => ?_) (fun h => absurd (of_decide_eq_false h) (by omega))) | (refine aw_cond rfl (fun _ => ?_) (fun h => absurd (of_decide_eq_false h) (by omega))) | refine aw_seq ?_ | refine aw_region ?_ | refine aw_lex [] ?_ | (refine isA ?_; refine do_F rfl ?_) | (refine isL ?_; refine lex_F rfl (by kernel_rfl) rfl rfl ?_) | (refine isLg rfl ?_; refine lex_S rfl (by kernel_rfl) rfl rfl ?_) | (refine isAc 60 ?_; refine do_R rfl (step_callA rfl ae rfl) rfl ?_) | (refine isLc 60 rfl ?_; refine lex_R rfl (by kernel_rfl) rfl (step_callA rfl ae rfl) rfl ?_) | refine aops_nil ?_ | refine lex_done _ rfl (by kernel_rfl) ?_ | refine aw_ct rfl ?_ | refine aw_cf rfl ?_ | refine aw_block ?_ | with_reducible refine then_n ?_ | refine aw_skip ?_ | refine aw_exit ?_ | (with_reducible first | refine then_x ?_ | refine then_r ?_ | refine block_x ?_ | refine block_n ?_ | refine block_r ?_) | refine aw_ret ?_
  · exact hold (c_stuck s g hok hb hm hf)
  · refine And.intro rfl (Sub.trans (Sub.trans ?_ (sub_nil (l' := _) 78 3 (.rest _) (.cons (.rest _) (.cons (.rest _) (.cons (.cons (.same _) (.cons (.same _) (.cons (.same _) (.cons (.same _) (.cons .nil (.rest _)))))) (.rest _)))))) (sub_nil (l' := _) 78 3 (.rest _) (.cons (.rest _) (.cons (.rest _) (.cons (.cons (.same _) (.cons (.same _) (.cons (.same _) (.cons .nil (.rest _))))) (.rest _))))))
    refine sub_st [0, 1, 2, 3, 4, 6, s.runs.length + 2 + 9, s.runs.length + 3 + 9, s.runs.length + 1 + 9] (List.range' 9 s.runs.length ++ [7]) rfl (by simp [swapV]) (nodup_push (by simp <;> omega) (fun h hh => by simp at hh; omega)) ?_ (rows_push (fun j x hx => get9 (app_left (app_left (app_left (app_left (nR_at hx)))))) rfl) (by repeat' first | exact les_nil | refine les_cons ?_ ?_ | exact le_any | exact le_refl rfl | exact le_sl rfl rfl | exact le_ptr rfl | exact le_sl rfl (by simp) | exact le_sl (congrArg some (by simp [nR_length] <;> omega)) rfl | exact le_sl (congrArg some (by simp [nR_length] <;> omega)) (by simp [swapV, endV, nextV]) | exact le_k (congrArg _ (by assumption)) | exact le_k (congrArg _ (Eq.symm (by assumption))))
    refine .cons rfl rfl rfl rfl (les_refl' rfl) (.cons rfl rfl rfl rfl (les_refl' rfl) (.cons rfl rfl rfl rfl ?_ (.cons rfl rfl rfl rfl (les_refl (flat_noH _ _)) (.cons rfl rfl rfl rfl (les_refl (flat_noH _ _)) (.cons rfl rfl rfl rfl (les_refl (flat_noH _ _)) (.cons (getB (app_left (get_last nR_l2))) rfl rfl rfl (les_refl (flat_noH _ _)) (.cons (getB (get_last nR_l3)) rfl rfl rfl (les_refl (flat_noH _ _)) (.cons (getB (app_left (app_left (get_last nR_l1)))) rfl rfl rfl (les_push rfl rfl) .nil))))))))
    exact (by repeat' first | exact les_nil | refine les_cons ?_ ?_ | exact le_any | exact le_refl rfl | exact le_sl rfl rfl | exact le_ptr rfl | exact le_sl rfl (by simp) | exact le_sl (congrArg some (by simp [nR_length] <;> omega)) rfl | exact le_sl (congrArg some (by simp [nR_length] <;> omega)) (by simp [swapV, endV, nextV]) | exact le_k (congrArg _ (by assumption)) | exact le_k (congrArg _ (Eq.symm (by assumption))))
theorem c_close (s : So) (g : Int) (hok : okSo s) (hb : VBa s) (hm : memV s ≤ 60) (hp : s.ph = 1) (hf : Stuck s g) (hh : s.heap = []) (hd : s.dfr = []) : AW Go.Proofs.Try.prog midC (stQ s (nextV (endIf s)) g []) (stT s s g []) := by
  have g2 := hok.dfr
  have g4 := hok.out
  have g5 := hok.runs
  have hh0 : s.heap.length = 0 := by rw [hh]; rfl
  have hd0 : s.dfr.length = 0 := by rw [hd]; rfl
  rcases Nat.eq_zero_or_pos s.out.length with h0 | h0
  · have e : nextV (endIf s) = { s with lp := 0, rp := 0, ph := cond (decide (s.runs.length = 0)) 4 (cond (decide (s.runs.length = 1)) 3 2) } := by
      rw [endIf, decide_eq_false (by omega), cond_false, nextV]
    rw [e]
    have an := c_next (bxS (soE s)) (bxS zS) (.sl 4 0 s.input.length) (I s.pos) (.sl 5 0 s.heap.length) (.sl 6 0 s.dfr.length) (.sl 7 0 s.out.length) (I s.lp) (I s.rp) (I s.ph) (I s.wr) 8 0 s.runs.length (rwR [] :: soR 4 s)
    repeat' first | (refine aw_cond rfl (fun _ => ?_) (fun h => absurd hp (of_decide_eq_false h))) | (refine aw_joinR 10 (T10 s g) (unhold ?_) ?_) | (refine do_br rfl rfl (fun _ => ?_) (fun h => absurd (of_decide_eq_false h) (by omega))) | (refine aw_cond rfl (fun h => absurd (of_decide_eq_true h) (by omega)) (fun _ => ?_)) | refine aw_seq ?_ | refine aw_region ?_ | refine aw_lex [] ?_ | (refine isA ?_; refine do_F rfl ?_) | (refine isL ?_; refine lex_F rfl (by kernel_rfl) rfl rfl ?_) | (refine isLg rfl ?_; refine lex_S rfl (by kernel_rfl) rfl rfl ?_) | (refine isAc 63 ?_; refine do_R rfl (step_callA rfl an rfl) rfl ?_) | (refine isLc 63 rfl ?_; refine lex_R rfl (by kernel_rfl) rfl (step_callA rfl an rfl) rfl ?_) | refine aops_nil ?_ | refine lex_done _ rfl (by kernel_rfl) ?_ | refine aw_ct rfl ?_ | refine aw_cf rfl ?_ | refine aw_block ?_ | with_reducible refine then_n ?_ | refine aw_skip ?_ | refine aw_exit ?_ | (with_reducible first | refine then_x ?_ | refine then_r ?_ | refine block_x ?_ | refine block_n ?_ | refine block_r ?_) | refine aw_ret ?_
    · exact hold (c_stuck s g hok hb hm hf)
    · exact And.intro rfl (sub_st [0, 1, 2, 3, 4, 5, 6, 7, 8] (List.range' 9 s.runs.length) rfl (by simp) (psi_nodup (by simp <;> omega) (fun h hh => by simp at hh; omega)) (by repeat' first | exact HLes.nil | refine HLes.cons rfl rfl rfl rfl (les_refl (flat_noH _ _)) ?_ | refine HLes.cons rfl rfl rfl rfl (les_refl' rfl) ?_ | refine HLes.cons rfl rfl rfl rfl (les_nC (fun j hj => psi_at _ 9 _ j hj)) ?_ | refine HLes.cons (getB (get_last nR_l0)) rfl rfl rfl (les_refl (flat_noH _ _)) ?_ | refine HLes.cons (getB (get_last nR_l1)) rfl rfl rfl (les_refl (flat_noH _ _)) ?_ | refine HLes.cons (getB (get_last nR_l2)) rfl rfl rfl (les_refl (flat_noH _ _)) ?_ | refine HLes.cons (getB (get_last nR_l3)) rfl rfl rfl (les_refl (flat_noH _ _)) ?_ | refine HLes.cons (getB (app_left (get_last nR_l0))) rfl rfl rfl (les_refl (flat_noH _ _)) ?_ | refine HLes.cons (getB (app_left (get_last nR_l1))) rfl rfl rfl (les_refl (flat_noH _ _)) ?_ | refine HLes.cons (getB (app_left (get_last nR_l2))) rfl rfl rfl (les_refl (flat_noH _ _)) ?_ | refine HLes.cons (getB (app_left (get_last nR_l3))) rfl rfl rfl (les_refl (flat_noH _ _)) ?_ | refine HLes.cons (getB (app_left (app_left (get_last nR_l0)))) rfl rfl rfl (les_refl (flat_noH _ _)) ?_ | refine HLes.cons (getB (app_left (app_left (get_last nR_l1)))) rfl rfl rfl (les_refl (flat_noH _ _)) ?_ | refine HLes.cons (getB (app_left (app_left (get_last nR_l2)))) rfl rfl rfl (les_refl (flat_noH _ _)) ?_ | refine HLes.cons (getB (app_left (app_left (get_last nR_l3)))) rfl rfl rfl (les_refl (flat_noH _ _)) ?_ | refine HLes.cons rfl rfl rfl rfl (by repeat' first | exact les_nil | refine les_cons ?_ ?_ | exact le_any | exact le_refl rfl | exact le_sl rfl rfl | exact le_ptr rfl | exact le_sl rfl (by simp) | exact le_sl (congrArg some (by simp [nR_length] <;> omega)) rfl | exact le_sl (congrArg some (by simp [nR_length] <;> omega)) (by simp [swapV, endV, nextV]) | exact le_k (congrArg _ (by assumption)) | exact le_k (congrArg _ (Eq.symm (by assumption)))) ?_) (fun j i x hi hx => by rw [ix9 hi]; exact get9 (nR_at hx)) (by repeat' first | exact les_nil | refine les_cons ?_ ?_ | exact le_any | exact le_refl rfl | exact le_sl rfl rfl | exact le_ptr rfl | exact le_sl rfl (by simp) | exact le_sl (congrArg some (by simp [nR_length] <;> omega)) rfl | exact le_sl (congrArg some (by simp [nR_length] <;> omega)) (by simp [swapV, endV, nextV]) | exact le_k (congrArg _ (by assumption)) | exact le_k (congrArg _ (Eq.symm (by assumption)))))
  · have e : nextV (endIf s) = { s with runs := s.runs ++ [s.out], out := [], lp := 0, rp := 0, ph := cond (decide (s.runs.length + 1 = 0)) 4 (cond (decide (s.runs.length + 1 = 1)) 3 2) } := by
      rw [endIf, decide_eq_true h0, cond_true, nextV, endV]
      simp
    rw [e]
    have ae := c_endrun (bxS (soE s)) (bxS zS) (rwR []) (rwR s.input) (rwR s.heap) (rwR s.dfr) (.sl 4 0 s.input.length) (I s.pos) (.sl 5 0 s.heap.length) (.sl 6 0 s.dfr.length) (I s.lp) (I s.rp) (I s.ph) (I s.wr) s.out (nC 9 s.runs) s.runs.length (nC_length _ _) (nR rwT 78 s.runs) (by omega)
    repeat' first | (refine aw_cond rfl (fun _ => ?_) (fun h => absurd hp (of_decide_eq_false h))) | (refine aw_joinR 10 (T10 s g) (unhold ?_) ?_) | (refine do_br rfl rfl (fun _ => ?_) (fun h => absurd (of_decide_eq_false h) (by omega))) | (refine aw_cond rfl (fun h => absurd (of_decide_eq_true h) (by omega)) (fun _ => ?_)) | (refine aw_cond rfl (fun _ => ?_) (fun h => absurd (of_decide_eq_false h) (by omega))) | refine aw_seq ?_ | refine aw_region ?_ | refine aw_lex [] ?_ | (refine isA ?_; refine do_F rfl ?_) | (refine isL ?_; refine lex_F rfl (by kernel_rfl) rfl rfl ?_) | (refine isLg rfl ?_; refine lex_S rfl (by kernel_rfl) rfl rfl ?_) | (refine isAc 60 ?_; refine do_R rfl (step_callA rfl ae rfl) rfl ?_) | (refine isLc 60 rfl ?_; refine lex_R rfl (by kernel_rfl) rfl (step_callA rfl ae rfl) rfl ?_) | (refine isAc 63 ?_; refine do_R rfl (step_callA rfl (c_next _ _ _ _ _ _ _ _ _ _ _ _ _ _ _) rfl) rfl ?_) | (refine isLc 63 rfl ?_; refine lex_R rfl (by kernel_rfl) rfl (step_callA rfl (c_next _ _ _ _ _ _ _ _ _ _ _ _ _ _ _) rfl) rfl ?_) | refine aops_nil ?_ | refine lex_done _ rfl (by kernel_rfl) ?_ | refine aw_ct rfl ?_ | refine aw_cf rfl ?_ | refine aw_block ?_ | with_reducible refine then_n ?_ | refine aw_skip ?_ | refine aw_exit ?_ | (with_reducible first | refine then_x ?_ | refine then_r ?_ | refine block_x ?_ | refine block_n ?_ | refine block_r ?_) | refine aw_ret ?_
    · exact hold (c_stuck s g hok hb hm hf)
    · refine And.intro rfl (Sub.trans ?_ (sub_nil (l' := _) 78 3 (.rest _) (.cons (.rest _) (.cons (.rest _) (.cons (.cons (.same _) (.cons (.same _) (.cons (.same _) (.cons (.same _) (.cons .nil (.rest _)))))) (.rest _))))))
      refine sub_st [0, 1, 2, 3, 4, 5, 6, s.runs.length + 2 + 9, s.runs.length + 1 + 9] (List.range' 9 s.runs.length ++ [7]) rfl (by simp) (nodup_push (by simp <;> omega) (fun h hh => by simp at hh; omega)) ?_ (rows_push (fun j x hx => get9 (app_left (app_left (app_left (nR_at hx))))) rfl) (by repeat' first | exact les_nil | refine les_cons ?_ ?_ | exact le_any | exact le_refl rfl | exact le_sl rfl rfl | exact le_ptr rfl | exact le_sl rfl (by simp) | exact le_sl (congrArg some (by simp [nR_length] <;> omega)) rfl | exact le_sl (congrArg some (by simp [nR_length] <;> omega)) (by simp [swapV, endV, nextV]) | exact le_k (congrArg _ (by assumption)) | exact le_k (congrArg _ (Eq.symm (by assumption))))
      refine .cons rfl rfl rfl rfl (les_refl' rfl) (.cons rfl rfl rfl rfl (les_refl' rfl) (.cons rfl rfl rfl rfl ?_ (.cons rfl rfl rfl rfl (les_refl (flat_noH _ _)) (.cons rfl rfl rfl rfl (les_refl (flat_noH _ _)) (.cons rfl rfl rfl rfl (les_refl (flat_noH _ _)) (.cons rfl rfl rfl rfl (les_refl (flat_noH _ _)) (.cons (getB (get_last nR_l2)) rfl rfl rfl (les_refl (flat_noH _ _)) (.cons (getB (app_left (get_last nR_l1))) rfl rfl rfl (les_push rfl rfl) .nil))))))))
      exact (by repeat' first | exact les_nil | refine les_cons ?_ ?_ | exact le_any | exact le_refl rfl | exact le_sl rfl rfl | exact le_ptr rfl | exact le_sl rfl (by simp) | exact le_sl (congrArg some (by simp [nR_length] <;> omega)) rfl | exact le_sl (congrArg some (by simp [nR_length] <;> omega)) (by simp [swapV, endV, nextV]) | exact le_k (congrArg _ (by assumption)) | exact le_k (congrArg _ (Eq.symm (by assumption))))
end Go.Proofs.Ytojcojanokhnaaa.Ab

/- SsF -/
namespace Go.Proofs.Ytojcojanokhnaaa.Ab
open Go.RowKit

theorem get7 {a0 a1 a2 a3 a4 a5 a6 x : Reg} {L : List Reg} {j : Nat} (h : L[j]? = some x) : (a0 :: a1 :: a2 :: a3 :: a4 :: a5 :: a6 :: L)[7 + j]? = some x := by
  rw [Nat.add_comm]; exact h
theorem ix7 {n j i : Nat} (h : (List.range' 7 n)[j]? = some i) : i = 7 + j := by
  rw [List.getElem?_range'] at h
  · have := Option.some.inj h; omega
  · exact Nat.lt_of_not_le fun hn => by rw [List.getElem?_eq_none (by simpa using hn)] at h; cases h
theorem c_istepO (s x : So) (g : Int) (r : List Rw) (hok : okSo s) (hv : vS s = true) (h1 : inV g 8 60 = true) (hp : s.ph ≠ 4) (h : AW Go.Proofs.Try.prog midC (stQ s x g r) (stT s s g [])) : Meets Go.Proofs.Try.prog 13 [.agg (soE s), I g] [] (.tup [.agg (soO 1 x), .sl 0 0 r.length, B true]) (rwR r :: soR 1 x) false := by
  have hfl : ∀ q ∈ rwR r :: soR 1 x, q.mode ≠ 1 ∧ (q.mode = 0 → FlatS q.cells) := fun q hq => by
    rcases List.mem_cons.1 hq with rfl | hq
    · exact rw_flatS _
    · exact soR_flat _ _ q hq
  have a1 := c_ivS s hok
  rw [hv] at a1
  have a2 := c_isgrant g
  rw [h1] at a2
  refine meets_ofCT 4 27 [5, 6] Go.Proofs.Try.func13 rfl rfl rfl ?_
  simp only [Go.Proofs.Try.ntmps13, List.length_cons, List.length_nil, Nat.reduceAdd, Nat.reduceSub, List.replicate_succ, List.replicate_zero, List.cons_append, List.nil_append]
  repeat' first | (refine aw_joinAt2 5 (stT s s g []) (stT s x g r) (unhold ?_) (unhold ?_) ?_) | (exact absurd (of_decide_eq_true ‹decide (s.ph = 4) = true›) hp) | refine aw_seq ?_ | refine aw_region ?_ | refine aw_lex [] ?_ | (refine isA ?_; refine do_F rfl ?_) | (refine isL ?_; refine lex_F rfl (by kernel_rfl) rfl rfl ?_) | (refine isLg rfl ?_; refine lex_S rfl (by kernel_rfl) rfl rfl ?_) | (refine isAc 56 ?_; refine do_R rfl (st_callKN (r' := .agg (soO 2 s)) (H' := bxS (soE s) :: bxS zS :: soR 2 s) rfl (c_iclone s hok) (.cons (.same rfl) .nil) (soO_sh 0 2 s) (by rw [soR_sh]; rfl)) rfl ?_) | (refine isLc 56 rfl ?_; refine lex_R rfl (by kernel_rfl) rfl (st_callKN (r' := .agg (soO 2 s)) (H' := bxS (soE s) :: bxS zS :: soR 2 s) rfl (c_iclone s hok) (.cons (.same rfl) .nil) (soO_sh 0 2 s) (by rw [soR_sh]; rfl)) rfl ?_) | (refine isAs (x := .tmp 7) ?_; refine do_R rfl (step_stores (vs := soO 2 s) rfl rfl rfl rfl (fun c hc => by simp at hc; rcases hc with rfl | rfl | rfl | rfl | rfl | rfl | rfl | rfl | rfl | rfl <;> rfl) (get_last rfl) rfl (Nat.le_refl _)) rfl ?_) | (refine isLs (x := .tmp 7) rfl ?_; refine lex_R rfl (by kernel_rfl) rfl (step_stores (vs := soO 2 s) rfl rfl rfl rfl (fun c hc => by simp at hc; rcases hc with rfl | rfl | rfl | rfl | rfl | rfl | rfl | rfl | rfl | rfl <;> rfl) (get_last rfl) rfl (Nat.le_refl _)) rfl ?_) | (refine isAc 17 ?_; refine do_R rfl (st_call rfl a1 (.cons (.same rfl) .nil) rfl) rfl ?_) | (refine isLc 17 rfl ?_; refine lex_R rfl (by kernel_rfl) rfl (st_call rfl a1 (.cons (.same rfl) .nil) rfl) rfl ?_) | (refine isAc 57 ?_; refine do_R rfl (st_call rfl a2 (.cons (.same rfl) .nil) rfl) rfl ?_) | (refine isLc 57 rfl ?_; refine lex_R rfl (by kernel_rfl) rfl (st_call rfl a2 (.cons (.same rfl) .nil) rfl) rfl ?_) | refine aops_nil ?_ | refine lex_done _ rfl (by kernel_rfl) ?_ | refine aw_ct rfl ?_ | refine aw_cf rfl ?_ | refine aw_block ?_ | with_reducible refine then_n ?_ | refine aw_skip ?_ | refine aw_exit ?_ | (with_reducible first | refine then_x ?_ | refine then_r ?_ | refine block_x ?_ | refine block_n ?_ | refine block_r ?_) | refine aw_ret ?_ | refine aw_cond rfl (fun hbr => ?_) (fun hbr => ?_)
  · refine hold ?_
    rw [set_last rfl]
    have kl : (bxS (soE s) :: bxS zS :: soR 2 s).length = s.runs.length + 7 := by simp [nR_length]
    refine sub_st [0, 1, s.runs.length + 7, s.runs.length + 8, 2, 3, 4, 5, 6] (List.range' 7 s.runs.length) rfl (by simp) (psi_nodup (by simp <;> omega) (fun h hh => by simp at hh; omega)) ?_ (fun j i x hi hx => by rw [ix7 hi]; exact app_left (app_left (get7 (nR_at hx)))) (by repeat' first | exact les_nil | refine les_cons ?_ ?_ | exact le_any | exact le_refl rfl | exact le_sl rfl rfl | exact le_ptr rfl | exact le_ptr (congrArg some (by simp [nR_length] <;> omega)) | exact le_sl rfl (by simp) | exact le_sl (congrArg some (by simp [nR_length] <;> omega)) rfl | exact le_sl (congrArg some (by simp [nR_length] <;> omega)) (by simp [swapV, endV, nextV]) | exact le_k (congrArg _ (by assumption)) | exact le_k (congrArg _ (Eq.symm (by assumption))))
    refine .cons rfl rfl rfl rfl (les_refl' rfl) (.cons rfl rfl rfl rfl (les_refl' rfl) (.cons (app_left (get_last kl)) rfl rfl rfl ?_ (.cons (get_last (by rw [List.length_append, kl]; rfl)) rfl rfl rfl les_nil (.cons rfl rfl rfl rfl (les_refl (flat_noH _ _)) (.cons rfl rfl rfl rfl (les_refl (flat_noH _ _)) (.cons rfl rfl rfl rfl (les_refl (flat_noH _ _)) (.cons rfl rfl rfl rfl (les_refl (flat_noH _ _)) (.cons rfl rfl rfl rfl (les_nC fun j hj => psi_at [0, 1, s.runs.length + 7, s.runs.length + 8, 2, 3, 4, 5, 6] 7 _ j hj) .nil))))))))
    exact (by repeat' first | exact les_nil | refine les_cons ?_ ?_ | exact le_any | exact le_refl rfl | exact le_sl rfl rfl | exact le_ptr rfl | exact le_ptr (congrArg some (by simp [nR_length] <;> omega)) | exact le_sl rfl (by simp) | exact le_sl (congrArg some (by simp [nR_length] <;> omega)) rfl | exact le_sl (congrArg some (by simp [nR_length] <;> omega)) (by simp [swapV, endV, nextV]) | exact le_k (congrArg _ (by assumption)) | exact le_k (congrArg _ (Eq.symm (by assumption))))
  · exact hold h
  · exact finMCTN ([3, 4, 5, 6, 7, 8] ++ List.range' 9 x.runs.length) (cell_is rfl rfl rfl rfl rfl) (le_tup (les_cons (le_agg (by repeat' first | exact les_nil | refine les_cons ?_ ?_ | exact le_any | exact le_refl rfl | exact le_sl rfl rfl | exact le_ptr rfl | exact le_ptr (congrArg some (by simp [nR_length] <;> omega)) | exact le_sl rfl (by simp) | exact le_sl (congrArg some (by simp [nR_length] <;> omega)) rfl | exact le_sl (congrArg some (by simp [nR_length] <;> omega)) (by simp [swapV, endV, nextV]) | exact le_k (congrArg _ (by assumption)) | exact le_k (congrArg _ (Eq.symm (by assumption))))) (les_cons (le_sl rfl rfl) (les_cons (le_refl rfl) les_nil)))) (hle_nest (hs := [3, 4, 5, 6, 7, 8]) (K1 := [rwR r, rwR x.input, rwR x.heap, rwR x.dfr, rwR x.out, ⟨84, 1, nC 6 x.runs, 0⟩]) (psi_nodup (by decide) (fun h hh => by simp at hh; omega)) (.cons rfl rfl rfl rfl (les_refl (flat_noH _ _)) (.cons rfl rfl rfl rfl (les_refl (flat_noH _ _)) (.cons rfl rfl rfl rfl (les_refl (flat_noH _ _)) (.cons rfl rfl rfl rfl (les_refl (flat_noH _ _)) (.cons rfl rfl rfl rfl (les_refl (flat_noH _ _)) (.cons rfl rfl rfl rfl (les_nC fun j hj => psi_at [3, 4, 5, 6, 7, 8] 9 _ j hj) .nil)))))) (fun j x hx => get9 (nR_at hx))) (Or.inr ⟨rfl, hfl⟩)
/-- The same, only read. -/
theorem c_istepF (s x : So) (g : Int) (r : List Rw) (hok : okSo s) (hv : vS s = true) (h1 : inV g 8 60 = true) (hp : s.ph ≠ 4) (h : AW Go.Proofs.Try.prog midC (stQ s x g r) (stT s s g [])) : Meets Go.Proofs.Try.prog 13 [.agg (soE s), I g] [] (.tup [.agg (soE x), rwL r, B true]) [] true :=
  (c_istepO s x g r hok hv h1 hp h).frozen (.tup (.cons (pur_so rfl rfl rfl rfl rfl fun j y hy => by rw [Nat.add_comm]; exact nR_at hy) (.cons (pur_row rfl) (.cons (.same rfl) .nil))))
/-- A step while the rows are read. -/
theorem c_mid1 (s x : So) (g : Int) (r : List Rw) (hok : okSo s) (hv : vS s = true) (hp : s.ph = 1) (h : StepV s g x r) : AW Go.Proofs.Try.prog midC (stQ s x g r) (stT s s g []) := by
  have hV := vS_iff.1 hv
  cases hV with
  | read b q =>
    have hm : memV s ≤ 60 := by rw [mem_r q.ph]; exact q.mem
    cases h with
    | put _ hr hf => exact c_put s g _ hok b hm hp hr hf
    | pop _ hf hh hk hr => exact c_pop s g _ _ hok b hm hp hf hh hk hr
    | swap _ hf hh hd => exact c_swap s g hok b hm hp hf hh hd
    | close _ hf hh hd => exact c_close s g hok b hm hp hf hh hd
    | merged h2 => omega
    | left h2 => omega
    | right h2 => omega
    | emit h2 => omega
  | merge b t ph => omega
  | emit b t ph => omega
  | done b t ph => omega
theorem c_istep1 (s x : So) (g : Int) (r : List Rw) (hok : okSo s) (hv : vS s = true) (h1 : inV g 8 60 = true) (hp : s.ph = 1) (h : StepV s g x r) : Meets Go.Proofs.Try.prog 13 [.agg (soE s), I g] [] (.tup [.agg (soE x), rwL r, B true]) [] true :=
  c_istepF s x g r hok hv h1 (by omega) (c_mid1 s x g r hok hv hp h)
end Go.Proofs.Ytojcojanokhnaaa.Ab
