/-
  CALLS TO WHICH ALL ROWS ARE HANDED: the callee numbers them as the caller does.
-/
import Derived.Test.YtojcojanokhnaaaAb5
namespace Go.Proofs.Ytojcojanokhnaaa.Ab
open Go.RowKit
set_option linter.unusedVariables false
set_option linter.unusedSimpArgs false

section
variable {P : Program} {o : Oper} {ρ : Operand → V} {H : List Reg}
theorem step_callA_gen {f : FuncId} {cargs : List V} {r : V} {K : List Reg}
    (hrun : ∀ (A : Nat → Prop) (φ : List Hd) (a : Act) (w : World), HeapOk A w φ H → (∀ x ∈ o.op.operands, Rel A w φ (ρ x) (a.eval x)) → ∃ xs : Array Value, (execOp a.eval o).run P w = .ok (.enter f xs) w ∧ xs.size = cargs.length ∧ Rels A w φ cargs (fun i => xs[i]?))
    (hm : Meets P f cargs H r K true) : Step P o ρ H r K := by
  intro S hS hρ C φ a w hI next Q hn
  obtain ⟨hm0, ⟨A, hA, hr⟩, hs, hd⟩ := hI
  subst hS
  obtain ⟨xs, hexec, hxl, hargr⟩ := hrun A φ a w hA.ok (fun x hx => by rw [← hρ x hx]; exact ev_rel hr x)
  have hcall := hm A φ w xs hA.ok hargr hxl
  unfold Oper.wp
  rw [hexec, Oper.upon_enter]
  refine hcall.mono ?_
  rintro e w' ⟨x, φ', A', rfl, k1, k2, k3, k4, k5, k6⟩
  have hfrA : ∀ b, A b → w'.heap[b]? = w.heap[b]? := fun b hb => k5.block b (hA.ok.low b hb) (fun h hl => hA.ok.apart h b hl hb)
  have hold : ∀ b, A' b → A b ∨ w.heap.size ≤ b := fun b hb => (k3 b hb).imp (fun h => h.2) id
  have hJ : InvA C (fun b => A b ∨ A' b) φ' K w' := by
    refine ⟨⟨k1.len, fun h hd q q1 q2 q3 => ?_, k1.inj, fun h b hl hb => ?_, fun h hd q b q1 q2 q3 q4 => Or.inr (k1.frz h hd q b q1 q2 q3 q4), fun b hb => ?_⟩, fun b hb => ?_, fun h b hl => ?_, ?_, fun h hd hh => k6 h hd (hA.pre h hd hh)⟩
    · obtain ⟨e1, e2⟩ := k1.regs h hd q q1 q2 q3
      refine ⟨e1, ?_⟩
      cases hb : hd.blk with
      | none => rw [hb] at e2; exact e2
      | some b =>
        rw [hb] at e2
        obtain ⟨c, c1, c2, c3, c4⟩ := e2
        exact ⟨c, c1, c2, c3, Rels.mono (fun b hb => ⟨Or.inr hb, rfl⟩) (fun _ _ h => h) c4⟩
    · rcases hb with hb | hb
      · rcases k4 h b hl with h1 | ⟨h0, h1⟩
        · have := hA.ok.low b hb
          omega
        · exact hA.ok.apart h0 b h1 hb
      · exact k1.apart h b hl hb
    · rcases hb with hb | hb
      · exact Nat.lt_of_lt_of_le (hA.ok.low b hb) k5.size
      · exact k1.low b hb
    · rcases hb with hb | hb
      · exact hA.old b hb
      · rcases hold b hb with hb | hb
        · exact hA.old b hb
        · exact Or.inr (Nat.le_trans hA.frame.size hb)
    · rcases k4 h b hl with h1 | ⟨h0, h1⟩
      · exact Or.inl (Nat.le_trans hA.frame.size h1)
      · exact hA.own h0 b h1
    · obtain ⟨f1, f2, f3, f4, f5⟩ := hA.frame
      refine ⟨k5.os.trans f1, k5.tape.trans f2, k5.output.trans f3, Nat.le_trans f4 k5.size, fun b hb hno => ?_⟩
      rw [k5.block b (Nat.lt_of_lt_of_le hb f4) (fun h hl => ?_)]
      · exact f5 b hb hno
      · rcases hA.own h b hl with h1 | ⟨h0, h1⟩
        · have h2 : b < C.w0.heap.size := hb
          omega
        · exact hno h0 h1
  have hr' : Rels (fun b => A b ∨ A' b) w' φ' S.tmps (fun i => a.tmps[i]?) := Rels.mono (fun b hb => ⟨Or.inl hb, hfrA b hb⟩) (fun h hd hh => k6 h hd hh) hr
  have hx : Rel (fun b => A b ∨ A' b) w' φ' r x := Rel.mono (fun b hb => ⟨Or.inr hb, rfl⟩) (fun _ _ h => h) k2
  obtain ⟨h7, h8⟩ := put_rel (H := K) hs hr' hx o.dst
  refine hn x w' φ' ⟨by cases o.dst <;> exact hm0, ⟨_, ?_, h7⟩, h8, by cases o.dst <;> exact hd⟩
  rw [put_H]
  exact hJ
/-- A call of a function that the text names; all rows are handed over, under their own numbers. -/
theorem step_callA {f : FuncId} {args : List Operand} {ats : Array TypeId} {cargs : List V} {r : V} {K : List Reg} [he : Ent P f] (ho : o.op = .call { callee := .value (.func f), args := args.toArray, argTypes := ats })
    (hm : Meets P f cargs H r K true) (hargs : args.map ρ = cargs) : Step P o ρ H r K :=
  step_callA_gen (fun A φ a w _ hh => ⟨_, run_call ho, by rw [← hargs]; simp, by rw [← hargs]; exact rels_map fun x hx => hh x (by rw [ho]; simp only [Op.operands, Call.operands]; simp [hx])⟩) hm
/-- The same of a function value. -/
theorem step_callAV {fo : Operand} {f : FuncId} {args : List Operand} {ats : Array TypeId} {caps cargs : List V} {r : V} {K : List Reg} [he : Ent P f] (ho : o.op = .call { callee := .value fo, args := args.toArray, argTypes := ats })
    (hf : ρ fo = .fn f caps) (hm : Meets P f cargs H r K true) (hargs : args.map ρ ++ caps = cargs) : Step P o ρ H r K :=
  step_callA_gen (fun A φ a w _ hh => by
    have h1 := hh fo (by rw [ho]; simp [Op.operands, Call.operands])
    rw [hf, Rel] at h1
    obtain ⟨ys, e1, e2, h2⟩ := h1
    refine ⟨(args.map a.eval).toArray ++ ys, ?_, by rw [← hargs]; simp [e2], ?_⟩
    · simp only [execOp, ho, resolve, e1, Deferred.ofValue, Sem.run_bind, Sem.run_pure, Result.andThen_ok, invoke, he.e]
      simp
    · rw [← hargs]
      refine rels_append (rels_congr (rels_map fun x hx => hh x (by rw [ho]; simp only [Op.operands, Call.operands]; simp [hx])) fun i hi => ?_) (rels_congr h2 fun i hi => ?_)
      · simp only [List.length_map] at hi
        rw [Array.getElem?_append_left (by simpa using hi)]
      · rw [Array.getElem?_append_right (by simp)]
        simp) hm

/-- Handed back as it stands: all rows, under their numbers. -/
theorem out_id {r : V} {S : St} : Out true r S.H r S := fun C A φ w x hm hA hv =>
  ⟨φ, A, hA.ok, hv, fun b hb => (hA.old b hb).imp (fun h => ⟨rfl, h⟩) id, fun h b hl => hA.own h b hl, fun h hd hh => hA.pre h hd hh⟩
theorem fin_v {l : List V} {H K : List Reg} {m : Nat} {e : Exit} (he : e = .ret ∨ e = .normal) (hK : H = K) : (e = .ret ∨ e = .normal) ∧ Out true (.tup []) K (resV ⟨l, H, m⟩ []) ⟨l, H, m⟩ := by
  subst hK; exact ⟨he, out_id (S := ⟨l, H, m⟩)⟩
theorem fin_i {l : List V} {H K : List Reg} {m : Nat} {ts : List Tmp} {r : V} (hv : resV ⟨l, H, m⟩ ts = r) (hK : H = K) : (Exit.ret = .ret ∨ Exit.ret = .normal) ∧ Out true r K (resV ⟨l, H, m⟩ ts) ⟨l, H, m⟩ := by
  subst hK; rw [hv]; exact ⟨Or.inl rfl, out_id (S := ⟨l, H, m⟩)⟩
end
end Go.Proofs.Ytojcojanokhnaaa.Ab
