/-
  ROWS THAT BEAR ROWS: lists of lists, each inner list a row of its own.
-/
import Derived.Test.YtkcicbigpbdjpaaAb2
namespace Go.Proofs.Ytkcicbigpbdjpaa.Ab
open Go.RowKit
set_option linter.unusedVariables false
set_option linter.unusedSimpArgs false

theorem noHs_of : ∀ {cs : List V}, NoH cs → noHs cs = true
  | [], _ => rfl
  | c :: cs, h => by simp only [noHs, h c (List.mem_cons_self ..), noHs_of fun d hd => h d (List.mem_cons_of_mem _ hd), Bool.and_self]

/-- A row, its numbers k more. -/
def shR (k : Nat) (r : Reg) : Reg := { r with cells := shVs k r.cells }

section
variable {A A' : Nat → Prop} {w w' : World} {φ φ' : List Hd} {H : List Reg}
theorem InvA.joinN {C : Cx} (hA : InvA C A φ H w) {K : List Reg} (hK : HeapOk A' w' φ' K) (hA' : ∀ b, A' b → A b ∨ w.heap.size ≤ b) (hl : ∀ h b, LiveAt φ' K h b → w.heap.size ≤ b) (hoth : ∀ b, b < w.heap.size → w'.heap[b]? = w.heap[b]?)
    (hsz : w.heap.size ≤ w'.heap.size) (hos : w'.os = w.os) (htape : w'.tape = w.tape) (hout : w'.output = w.output) :
    InvA C (fun b => A b ∨ A' b) (φ ++ φ') (H ++ K.map (shR H.length)) w' := by
  have hlen := hA.ok.len
  have hφ : ∀ (h : Nat) (hd : Hd), φ[h]? = some hd → (φ ++ φ')[h]? = some hd := fun h hd hh => app_left hh
  have hAm : ∀ b, A b → (A b ∨ A' b) ∧ w'.heap[b]? = w.heap[b]? := fun b hb => ⟨Or.inl hb, hoth b (hA.ok.low b hb)⟩
  have hsplit : ∀ (h : Nat) (hd : Hd) (r : Reg), (φ ++ φ')[h]? = some hd → (H ++ K.map (shR H.length))[h]? = some r → (φ[h]? = some hd ∧ H[h]? = some r) ∨ (∃ j r0, h = φ.length + j ∧ φ'[j]? = some hd ∧ K[j]? = some r0 ∧ r = shR H.length r0) := fun h hd r h1 h2 => by
    rcases Nat.lt_or_ge h φ.length with hh | hh
    · rw [List.getElem?_append_left hh] at h1
      rw [List.getElem?_append_left (by omega)] at h2
      exact Or.inl ⟨h1, h2⟩
    · rw [List.getElem?_append_right hh] at h1
      rw [List.getElem?_append_right (by omega), ← hlen] at h2
      rw [List.getElem?_map] at h2
      cases hq : K[h - φ.length]? with
      | none => rw [hq] at h2; cases h2
      | some r0 =>
        rw [hq] at h2
        simp only [Option.map_some, Option.some.injEq] at h2
        exact Or.inr ⟨h - φ.length, r0, by omega, h1, hq, by rw [← hlen]; exact h2.symm⟩
  have hlive : ∀ h b, LiveAt (φ ++ φ') (H ++ K.map (shR H.length)) h b → LiveAt φ H h b ∨ ∃ j, h = φ.length + j ∧ LiveAt φ' K j b := by
    rintro h b ⟨hd, r, h1, h2, h3, h4⟩
    rcases hsplit h hd r h1 h2 with ⟨p1, p2⟩ | ⟨j, r0, p0, p1, p2, rfl⟩
    · exact Or.inl ⟨hd, r, p1, p2, h3, h4⟩
    · exact Or.inr ⟨j, p0, hd, r0, p1, p2, h3, h4⟩
  have hlow : ∀ h b, LiveAt φ H h b → b < w.heap.size := fun h b ⟨hd, r, h1, h2, h3, h4⟩ => blk_of hA.ok h1 h2 (by omega) h4
  refine ⟨⟨by simp [hlen, hK.len], fun h hd r h1 h2 h3 => ?_, fun h h' b h1 h2 => ?_, fun h b h1 => ?_, fun h hd r b h1 h2 h3 h4 => ?_, fun b hb => ?_⟩, fun b hb => ?_, fun h b h1 => ?_, ?_, fun h hd hh => hφ h hd (hA.pre h hd hh)⟩
  · rcases hsplit h hd r h1 h2 with ⟨p1, p2⟩ | ⟨j, r0, p0, p1, p2, rfl⟩
    · obtain ⟨e1, e2⟩ := hA.ok.regs h hd r p1 p2 h3
      refine ⟨e1, ?_⟩
      cases hk : hd.blk with
      | none => rw [hk] at e2; exact e2
      | some b =>
        rw [hk] at e2
        obtain ⟨c, k1, k2, k3, k4⟩ := e2
        exact ⟨c, (hoth b (blk_of hA.ok p1 p2 h3 hk)).trans k1, k2, k3, Rels.mono hAm hφ k4⟩
    · obtain ⟨e1, e2⟩ := hK.regs j hd r0 p1 p2 h3
      refine ⟨e1, ?_⟩
      cases hk : hd.blk with
      | none => rw [hk] at e2; refine ⟨?_, e2.2⟩; show shVs H.length r0.cells = []; rw [e2.1]; rfl
      | some b =>
        rw [hk] at e2
        obtain ⟨c, k1, k2, k3, k4⟩ := e2
        exact ⟨c, k1, k2, by show (shVs H.length r0.cells).length ≤ _; rw [shVs_length]; exact k3, Rels.mono (fun b hb => ⟨Or.inr hb, rfl⟩) (fun _ _ h => h) (by rw [← hlen]; exact shVs_rel k4)⟩
  · rcases hlive h b h1 with q1 | ⟨j, p1, q1⟩
    · rcases hlive h' b h2 with q2 | ⟨j', p2, q2⟩
      · exact hA.ok.inj _ _ _ q1 q2
      · have := hlow _ _ q1
        have := hl _ _ q2
        omega
    · rcases hlive h' b h2 with q2 | ⟨j', p2, q2⟩
      · have := hlow _ _ q2
        have := hl _ _ q1
        omega
      · rw [p1, p2, hK.inj _ _ _ q1 q2]
  · rcases hlive h b h1 with q1 | ⟨j, p1, q1⟩
    · rintro (hb | hb)
      · exact hA.ok.apart _ _ q1 hb
      · rcases hA' b hb with hb | hb
        · exact hA.ok.apart _ _ q1 hb
        · have := hlow _ _ q1
          omega
    · rintro (hb | hb)
      · have := hA.ok.low b hb
        have := hl _ _ q1
        omega
      · exact hK.apart _ _ q1 hb
  · rcases hsplit h hd r h1 h2 with ⟨p1, p2⟩ | ⟨j, r0, p0, p1, p2, rfl⟩
    · exact Or.inl (hA.ok.frz h hd r b p1 p2 h3 h4)
    · exact Or.inr (hK.frz j hd r0 b p1 p2 h3 h4)
  · rcases hb with hb | hb
    · exact Nat.lt_of_lt_of_le (hA.ok.low b hb) hsz
    · exact hK.low b hb
  · rcases hb with hb | hb
    · exact hA.old b hb
    · rcases hA' b hb with hb | hb
      · exact hA.old b hb
      · exact Or.inr (Nat.le_trans hA.frame.size hb)
  · rcases hlive h b h1 with q1 | ⟨j, p1, q1⟩
    · exact hA.own _ _ q1
    · exact Or.inl (Nat.le_trans hA.frame.size (hl _ _ q1))
  · obtain ⟨f1, f2, f3, f4, f5⟩ := hA.frame
    exact ⟨hos.trans f1, htape.trans f2, hout.trans f3, Nat.le_trans f4 hsz, fun i hi hno => (hoth i (Nat.lt_of_lt_of_le hi f4)).trans (f5 i hi hno)⟩
end

section
variable {P : Program} {o : Oper} {ρ : Operand → V} {H : List Reg}
theorem step_call_genN {f : FuncId} {vs cargs : List V} {r : V} {K : List Reg} {al : Bool}
    (hrun : ∀ (A : Nat → Prop) (φ : List Hd) (a : Act) (w : World), HeapOk A w φ H → (∀ x ∈ o.op.operands, Rel A w φ (ρ x) (a.eval x)) → ∃ xs : Array Value, (execOp a.eval o).run P w = .ok (.enter f xs) w ∧ xs.size = vs.length ∧ Rels A w φ vs (fun i => xs[i]?))
    (hm : Meets P f cargs [] r K al) (hargs : Purs (!al) H vs cargs) : Step P o ρ H (shV H.length r) (H ++ K.map (shR H.length)) := by
  intro S hS hρ C φ a w hI next Q hn
  obtain ⟨hm0, ⟨A, hA, hr⟩, hs, hd⟩ := hI
  subst hS
  obtain ⟨xs, hexec, hxl, hargr⟩ := hrun A φ a w hA.ok (fun x hx => by rw [← hρ x hx]; exact ev_rel hr x)
  let A1 : Nat → Prop := fun b => A b ∨ (al = false ∧ b < w.heap.size)
  have hok1 : HeapOk A1 w [] [] := ⟨rfl, fun h hd r h1 => by simp at h1, fun h h' b ⟨hd, r, h1, _⟩ => by simp at h1, fun h b ⟨hd, r, h1, _⟩ => by simp at h1, fun h hd r b h1 => by simp at h1, fun b hb => by
    rcases hb with hb | hb
    · exact hA.ok.low b hb
    · exact hb.2⟩
  have hargs1 : Rels A1 w [] cargs (fun i => xs[i]?) := Purs.rels hA.ok (fun b hb => Or.inl hb) (fun hl h b hb => Or.inr ⟨by cases al <;> simp_all, by obtain ⟨hd, r, q1, q2, q3, q4⟩ := hb; exact blk_of hA.ok q1 q2 (by omega) q4⟩) hargs hargr
  have hcall := hm A1 [] w xs hok1 hargs1 (hxl.trans (Purs.length hargs))
  unfold Oper.wp
  rw [hexec, Oper.upon_enter]
  refine hcall.mono ?_
  rintro e w' ⟨x, φ', A', rfl, k1, k2, k3, k4, k5, k6⟩
  have hfr : ∀ b, b < w.heap.size → w'.heap[b]? = w.heap[b]? := fun b hb => k5.block b hb (fun h ⟨hd, r, h1, _⟩ => by simp at h1)
  have hJ : InvA C (fun b => A b ∨ A' b) (φ ++ φ') (S.H ++ K.map (shR S.H.length)) w' := hA.joinN k1 (fun b hb => by
      rcases k3 b hb with ⟨ha, hb | hb⟩ | hb
      · exact Or.inl hb
      · rw [ha] at hb; cases hb.1
      · exact Or.inr hb)
    (fun h b hl => by
      rcases k4 h b hl with h1 | ⟨h0, hd, r, h1, _⟩
      · exact h1
      · simp at h1) hfr k5.size k5.os k5.tape k5.output
  have hr' : Rels (fun b => A b ∨ A' b) w' (φ ++ φ') S.tmps (fun i => a.tmps[i]?) := Rels.mono (fun b hb => ⟨Or.inl hb, hfr b (hA.ok.low b hb)⟩) (fun h hd hh => app_left hh) hr
  have hx : Rel (fun b => A b ∨ A' b) w' (φ ++ φ') (shV S.H.length r) x := by
    rw [← hA.ok.len]
    exact shV_rel (Rel.mono (fun b hb => ⟨Or.inr hb, rfl⟩) (fun _ _ h => h) k2)
  obtain ⟨h7, h8⟩ := put_rel (H := S.H ++ K.map (shR S.H.length)) hs hr' hx o.dst
  refine hn x w' (φ ++ φ') ⟨by cases o.dst <;> exact hm0, ⟨_, ?_, h7⟩, h8, by cases o.dst <;> exact hd⟩
  rw [put_H]
  exact hJ

theorem st_callMs {f : FuncId} {args : List Operand} {ats : Array TypeId} {cargs : List V} {r : V} {Rs Rs' : List Reg} {K H' : List Reg} (hs : List Nat) (hnd : hs.Nodup) [he : Ent P f] (ho : o.op = .call { callee := .value (.func f), args := args.toArray, argTypes := ats })
    (hm : Meets P f cargs Rs r (Rs' ++ K) true) (hg : Give H hs Rs Rs') (hargs : PassS hs (args.map ρ) cargs) (hN : ∀ r ∈ K, NoH r.cells) (hr : noH r = true) (hH : setAll H hs Rs' ++ K = H') : Step P o ρ H r H' := by
  subst hH
  exact step_callMs hs hnd ho hm hg hargs hN hr
theorem st_callKN {K H' : List Reg} {f : FuncId} {args : List Operand} {ats : Array TypeId} {cargs : List V} {r r' : V} {al : Bool} [he : Ent P f] (ho : o.op = .call { callee := .value (.func f), args := args.toArray, argTypes := ats })
    (hm : Meets P f cargs [] r K al) (hargs : Purs (!al) H (args.map ρ) cargs) (hr : shV H.length r = r') (hH : H ++ K.map (shR H.length) = H') : Step P o ρ H r' H' := by
  subst hr
  subst hH
  exact step_call_genN (fun A φ a w hok hh => ⟨_, run_call ho, by simp, rels_map fun x hx => hh x (by rw [ho]; simp only [Op.operands, Call.operands]; simp [hx])⟩) hm hargs
end

/-! ### Lists of lists -/
section
variable {α : Type} {T : Ty α} {e : TypeId}
/-- The cells of a row of rows: row number b, b + 1, .. -/
def nC (b : Nat) : List (List α) → List V
  | [] => []
  | x :: xs => .sl b 0 x.length :: nC (b + 1) xs
def nR (T : Ty α) (e : TypeId) (rs : List (List α)) : List Reg := rs.map (regOf T e)

theorem nC_length : ∀ (b : Nat) (rs : List (List α)), (nC b rs).length = rs.length
  | _, [] => rfl
  | b, x :: xs => by simp [nC, nC_length (b + 1) xs]
theorem nC_get : ∀ (b : Nat) (rs : List (List α)) (j : Nat), (nC b rs)[j]? = (rs[j]?).map fun x => .sl (b + j) 0 x.length
  | _, [], j => by simp [nC]
  | b, x :: xs, 0 => by simp [nC]
  | b, x :: xs, j + 1 => by
    simp only [nC, List.getElem?_cons_succ]
    rw [nC_get (b + 1) xs j]
    congr 2
    funext y
    congr 1
    omega
theorem nC_at {b : Nat} {rs : List (List α)} {j : Nat} {x : List α} (h : rs[j]? = some x) : (nC b rs)[j]? = some (.sl (b + j) 0 x.length) := by rw [nC_get, h]; rfl
theorem nC_append : ∀ (b : Nat) (rs ss : List (List α)), nC b (rs ++ ss) = nC b rs ++ nC (b + rs.length) ss
  | _, [], ss => by simp [nC]
  | b, x :: xs, ss => by
    simp only [List.cons_append, nC, List.length_cons]
    rw [nC_append (b + 1) xs ss]
    congr 3
    omega
theorem shVs_nC (n : Nat) : ∀ (b : Nat) (rs : List (List α)), shVs n (nC b rs) = nC (b + n) rs
  | _, [] => rfl
  | b, x :: xs => by
    simp only [nC, shVs, shV]
    rw [shVs_nC n (b + 1) xs]
    congr 2
    omega
theorem nR_length (rs : List (List α)) : (nR T e rs).length = rs.length := by simp [nR]
theorem nR_at {rs : List (List α)} {j : Nat} {x : List α} (h : rs[j]? = some x) : (nR T e rs)[j]? = some (regOf T e x) := by simp [nR, h]
theorem nR_append (rs ss : List (List α)) : nR T e (rs ++ ss) = nR T e rs ++ nR T e ss := by simp [nR]
theorem nR_sh (n : Nat) (rs : List (List α)) : (nR T e rs).map (shR n) = nR T e rs := by
  rw [nR, List.map_map]
  refine List.map_congr_left fun x hx => ?_
  simp only [Function.comp, shR, shVs_noH n (noHs_of (flat_noH T x))]
theorem nC_oneV : ∀ (b : Nat) (rs : List (List α)), ∀ c ∈ nC b rs, oneV c = true
  | _, [] => fun c hc => by cases hc
  | b, x :: xs => fun c hc => by
    rcases List.mem_cons.1 hc with rfl | hc
    · rfl
    · exact nC_oneV (b + 1) xs c hc

/-- Lists of lists, as they are read. -/
def lsT (T : Ty α) : Ty (List α) := ⟨1, fun xs => [lstOf T xs], fun _ => rfl, by decide, fun r c hc => by
  simp only [List.mem_cons, List.not_mem_nil, or_false] at hc
  subst hc
  exact ⟨rfl, rfl⟩⟩

theorem pur_row {H : List Reg} {h : Nat} {x : List α} (hH : H[h]? = some (regOf T e x)) : Pur true H (.sl h 0 x.length) (lstOf T x) := pur_L hH rfl rfl rfl
theorem pur_nC {H : List Reg} : ∀ {b : Nat} {rs : List (List α)}, (∀ j x, rs[j]? = some x → H[b + j]? = some (regOf T e x)) → Purs true H (nC b rs) ((lsT T).flat rs)
  | _, [], _ => .nil
  | b, x :: xs, h => by
    rw [flat_cons]
    exact .cons (pur_row (h 0 x rfl)) (pur_nC fun j y hj => by have := h (j + 1) y (by simpa using hj); rw [show b + 1 + j = b + (j + 1) by omega]; exact this)
theorem pur_nest {H : List Reg} {h b ty : Nat} {rs : List (List α)} (hH : H[h]? = some ⟨ty, 1, nC b rs, 0⟩) (hR : ∀ j x, rs[j]? = some x → H[b + j]? = some (regOf T e x)) : Pur true H (.sl h 0 rs.length) (lstOf (lsT T) rs) :=
  .slN hH (Or.inr ⟨rfl, rfl⟩) (Nat.succ_pos 0) (by simp [nC_length]) (by
    have := pur_nC (H := H) hR
    simpa [nC_length, List.take_of_length_le] using this)

theorem les_nC {ψ : List Nat} : ∀ {b b' : Nat} {rs : List (List α)}, (∀ j, j < rs.length → ψ[b + j]? = some (b' + j)) → Les ψ (nC b rs) (nC b' rs)
  | _, _, [], _ => les_nil
  | b, b', x :: xs, h => les_cons (le_sl (h 0 (by simp)) rfl) (les_nC fun j hj => by
      have := h (j + 1) (by simp; omega)
      rw [show b + 1 + j = b + (j + 1) by omega, show b' + 1 + j = b' + (j + 1) by omega]
      exact this)

theorem psi_at (hs : List Nat) (b n j : Nat) (h : j < n) : (hs ++ List.range' b n)[hs.length + j]? = some (b + j) := by
  rw [List.getElem?_append_right (Nat.le_add_right _ _), Nat.add_sub_cancel_left]
  simp [h]
theorem psi_nodup {hs : List Nat} {b n : Nat} (h1 : hs.Nodup) (h2 : ∀ h ∈ hs, h < b ∨ b + n ≤ h) : (hs ++ List.range' b n).Nodup := by
  rw [List.nodup_append]
  refine ⟨h1, List.nodup_range', fun x hx y hy => ?_⟩
  rw [List.mem_range'_1] at hy
  have := h2 x hx
  omega

theorem hle_nest {H : List Reg} {hs : List Nat} {K1 : List Reg} {rs : List (List α)} {b : Nat} (hn : (hs ++ List.range' b rs.length).Nodup) (h1 : HLes (hs ++ List.range' b rs.length) H hs K1) (h2 : ∀ j x, rs[j]? = some x → H[b + j]? = some (regOf T e x)) :
    HLe (hs ++ List.range' b rs.length) (K1 ++ nR T e rs) H := by
  obtain ⟨e1, e2⟩ := h1.get
  refine ⟨by simp [e1, nR], hn, fun i h hi => ?_⟩
  rcases Nat.lt_or_ge i hs.length with hlt | hge
  · rw [List.getElem?_append_left hlt] at hi
    obtain ⟨r, r', q1, q2, q3⟩ := e2 i h hi
    exact ⟨r, r', app_left q1, q2, q3⟩
  · rw [List.getElem?_append_right hge] at hi
    have hlt : i - hs.length < rs.length := by
      have := (List.getElem?_eq_some_iff.1 hi).1
      simpa using this
    have hx := List.getElem?_eq_getElem hlt
    have hh : h = b + (i - hs.length) := by
      obtain ⟨_, q⟩ := List.getElem?_eq_some_iff.1 hi
      simp at q
      omega
    subst hh
    refine ⟨_, _, ?_, h2 _ _ hx, fun _ => ⟨rfl, rfl, rfl, les_refl (flat_noH T _)⟩⟩
    rw [List.getElem?_append_right (by omega), ← e1]
    exact nR_at hx
end

/-! ### What is handed back -/
def FlatS (cs : List V) : Prop := ∀ c ∈ cs, (match c with | .k _ | .sl _ _ _ | .ptr _ _ | .any => true | _ => false) = true
theorem FlatL.flatS {cs : List V} (h : FlatL cs) : FlatS cs := fun c hc => by obtain ⟨v, rfl⟩ := h c hc; rfl
theorem nC_flatS {α : Type} : ∀ (b : Nat) (rs : List (List α)), FlatS (nC b rs)
  | _, [] => fun c hc => by cases hc
  | b, x :: xs => fun c hc => by
    rcases List.mem_cons.1 hc with rfl | hc
    · rfl
    · exact nC_flatS (b + 1) xs c hc
theorem out_ofN {al : Bool} {r v : V} {K : List Reg} {S : St} (ψ : List Nat) (hfix : ∀ i, i < S.m → ψ[i]? = some i) (hH : HLe ψ K S.H) (hr : Le ψ r v)
    (hal : al = true ∨ (flatV r = true ∧ ∀ q ∈ K, q.mode ≠ 1 ∧ (q.mode = 0 → FlatS q.cells))) : Out al r K v S := by
  intro C A φ w x hm hA hv
  obtain ⟨φ', h1, h2, h3, h4⟩ := hH.ok hA.ok
  have hown : ∀ h b, LiveAt φ' K h b → C.w0.heap.size ≤ b ∨ ∃ h0, LiveAt C.φ0 C.H0 h0 b := fun h b hl => by
    obtain ⟨h', hl'⟩ := h4 h b hl
    exact hA.own h' b hl'
  have hpre : ∀ (h : Nat) (hd : Hd), C.φ0[h]? = some hd → φ'[h]? = some hd := fun i hd hi =>
    h2 i i (hfix i (by rw [← hm]; exact (List.getElem?_eq_some_iff.1 hi).1)) hd (hA.pre i hd hi)
  rcases hal with hal | ⟨hf, hK⟩
  · exact ⟨φ', A, h3, Le.rel h2 hr hv, fun b hb => (hA.old b hb).imp (fun h => ⟨hal, h⟩) id, hown, hpre⟩
  · refine ⟨φ', fun _ => False, ⟨h3.len, fun h hd q q1 q2 q3 => ?_, h3.inj, fun _ _ _ h => h, fun h hd q b q1 q2 q3 q4 => absurd q3 (hK q (List.mem_of_getElem? q2)).1, fun _ h => h.elim⟩, flat_rel hf (Le.rel h2 hr hv), fun _ h => h.elim, hown, hpre⟩
    obtain ⟨e1, e2⟩ := h3.regs h hd q q1 q2 q3
    have hq := hK q (List.mem_of_getElem? q2)
    refine ⟨e1, ?_⟩
    cases hb : hd.blk with
    | none => rw [hb] at e2; exact e2
    | some b =>
      rw [hb] at e2
      obtain ⟨c, k1, k2, k3, k4⟩ := e2
      have hs := hq.2 (by have := hq.1; omega)
      exact ⟨c, k1, k2, k3, flat_rels (fun c hc x hx => flat_one hx (by have := hs c hc; cases c <;> first | rfl | exact this)) k4⟩

section
variable {l : List V} {H : List Reg}
theorem finN {al : Bool} {t : Tmp} {v r : V} {K : List Reg} (ψ : List Nat) (hv : evO l (.tmp t) = some v) (hH : HLe ψ K H) (hr : Le ψ r v) (hal : al = true ∨ (flatV r = true ∧ ∀ q ∈ K, q.mode ≠ 1 ∧ (q.mode = 0 → FlatS q.cells))) :
    (Exit.ret = .ret ∨ Exit.ret = .normal) ∧ Out al r K (resV ⟨l, H, 0⟩ [t]) ⟨l, H, 0⟩ := by
  have : resV ⟨l, H, 0⟩ [t] = v := ev_of (H := H) (m := 0) (x := .tmp t) hv
  rw [this]
  exact ⟨Or.inl rfl, out_ofN ψ (fun i hi => absurd hi (Nat.not_lt_zero _)) hH hr hal⟩

theorem finNm {al : Bool} {t : Tmp} {v r : V} {K : List Reg} (k : Nat) (ψ : List Nat) (hfix : ∀ i, i < k → ψ[i]? = some i) (hv : evO l (.tmp t) = some v) (hH : HLe ψ K H) (hr : Le ψ r v) (hal : al = true ∨ (flatV r = true ∧ ∀ q ∈ K, q.mode ≠ 1 ∧ (q.mode = 0 → FlatS q.cells))) :
    (Exit.ret = .ret ∨ Exit.ret = .normal) ∧ Out al r K (resV ⟨l, H, k⟩ [t]) ⟨l, H, k⟩ := by
  have : resV ⟨l, H, k⟩ [t] = v := ev_of (H := H) (m := k) (x := .tmp t) hv
  rw [this]
  exact ⟨Or.inl rfl, out_ofN ψ hfix hH hr hal⟩
theorem fixR (n : Nat) : ∀ i, i < n + 1 → ([0] ++ List.range' 1 n)[i]? = some i := fun i hi => by
  cases i with
  | zero => rfl
  | succ i =>
    have := psi_at [0] 1 n i (by omega)
    rw [List.length_singleton, Nat.add_comm 1 i] at this
    exact this

/-- Less said of the slots alone. -/
inductive EqS : List V → List V → Prop where
  | nil : EqS [] []
  | any {d : V} {cs ds : List V} (h : EqS cs ds) : EqS (.any :: cs) (d :: ds)
  | same {c d : V} {cs ds : List V} (hc : d = c) (h : EqS cs ds) : EqS (c :: cs) (d :: ds)
theorem EqS.length : ∀ {cs ds : List V}, EqS cs ds → ds.length = cs.length
  | _, _, .nil => rfl
  | _, _, .any h => by simp [EqS.length h]
  | _, _, .same _ h => by simp [EqS.length h]
theorem EqS.rels {A : Nat → Prop} {w : World} {φ : List Hd} : ∀ {cs ds : List V} {g : Nat → Option Value}, EqS cs ds → Rels A w φ ds g → Rels A w φ cs g
  | _, _, g, .nil, h => h
  | _, _, g, .any hs, h => by
    rw [Rels] at h ⊢
    obtain ⟨⟨y, h1, h2⟩, h3⟩ := h
    exact ⟨⟨y, h1, by simp [Rel]⟩, EqS.rels hs h3⟩
  | _, _, g, .same hc hs, h => by
    subst hc
    rw [Rels] at h ⊢
    obtain ⟨h1, h3⟩ := h
    exact ⟨h1, EqS.rels hs h3⟩
theorem sub_id {l' : List V} {H H' : List Reg} {m : Nat} (hH : H' = H) (ht : EqS l' l) : Sub ⟨l', H', m⟩ ⟨l, H, m⟩ := fun C φ a w hI => by
  subst hH
  obtain ⟨hm0, ⟨A, hA, hr⟩, hs, hd⟩ := hI
  exact ⟨φ, hm0, ⟨A, hA, EqS.rels ht hr⟩, hs.trans (EqS.length ht), hd⟩
end

/-- What a call that is handed back rows freezes: a list of lists, to be read. -/
theorem Meets.weak {P : Program} {f : FuncId} {cargs : List V} {hs : List Reg} {r : V} {hs' : List Reg} (h : Meets P f cargs hs r hs' false) : Meets P f cargs hs r hs' true := by
  intro A φ w xs hok hrel hsz
  refine (h A φ w xs hok hrel hsz).mono ?_
  rintro e w' ⟨x, φ', A', k0, k1, k2, k3, k4, k5, k6⟩
  exact ⟨x, φ', A', k0, k1, k2, fun b hb => (k3 b hb).imp (fun h => by cases h.1) id, k4, k5, k6⟩

theorem i_succ {i n : Nat} (h : i < n) (hn : n ≤ 1000000000000) : I (IntKind.i64.wrap ((i : Int) + 1)) = I ((i + 1 : Nat) : Int) := congrArg I (wrap_succ h hn)

/-! ### A row of one cell an element, filled from the left -/
section
variable {P : Program} {o : Oper} {ρ : Operand → V} {H : List Reg}
theorem mkN {t e b : Nat} {x y : Operand} {k k' : IntKind} {m : Nat} (z : Value) [ht : Sl P t e 1 b] [hz : Ze P e [z]] (ho : o.op = .makeSlice t x y) (hx : ρ x = .k (.int k m)) (hy : ρ y = .k (.int k' m)) (hm : m ≤ 1000000000) (hb : Nat.ble b 100000 = true) :
    Step P o ρ H (.sl H.length 0 m) (H ++ [⟨e, 1, List.replicate m (.k z), 0⟩]) := by
  have hb' := Nat.le_of_ble_eq_true hb
  have h := step_make (P := P) (H := H) ho hx hy (b := b) (t := t) (n := 1) (zs := [z]) (Nat.le_trans (Nat.mul_le_mul hm hb') (by decide)) (by omega) rfl
  have e1 : (List.replicate m ([z].map V.k)).flatten = List.replicate m (.k z) := by
    induction m with
    | zero => rfl
    | succ m ih => simp [List.replicate_succ]
  rw [e1] at h
  exact h
theorem fillN {pre : List V} {n i : Nat} {z v : V} (hl : pre.length = i) (hi : i < n) : setCells (pre ++ List.replicate (n - i) z) i [v] = pre ++ [v] ++ List.replicate (n - (i + 1)) z := by
  subst hl
  unfold setCells
  rw [List.take_append_of_le_length (Nat.le_refl _), List.take_length]
  congr 1
  refine List.ext_getElem? fun j => ?_
  rw [List.getElem?_drop, List.getElem?_append_right (by simp; omega), List.getElem?_replicate, List.getElem?_replicate]
  simp only [List.length_cons, List.length_nil]
  split <;> split <;> first | rfl | omega
end
end Go.Proofs.Ytkcicbigpbdjpaa.Ab
