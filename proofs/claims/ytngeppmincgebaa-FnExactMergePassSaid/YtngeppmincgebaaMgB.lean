/-
  MergePass, both sides.
-/
import Derived.Test.YtngeppmincgebaaMgA
import Derived.Test.YtngeppmincgebaaAb5
namespace Go.Proofs.Ytngeppmincgebaa.Ab
open Go.RowKit
set_option linter.unusedVariables false
set_option linter.unusedSimpArgs false
set_option maxRecDepth 20000
set_option maxHeartbeats 4000000

def mpV : List Rn → List Rn
  | [] => []
  | [x] => [x]
  | x :: y :: r => mgV x y :: mpV r
theorem mp_end {rs : List Rn} {i : Nat} (h : rs.length ≤ i) : mpV (rs.drop i) = [] := by rw [List.drop_of_length_le h]; rfl
theorem mp_one {rs : List Rn} {i : Nat} {x : Rn} (hx : rs[i]? = some x) (h : i + 1 = rs.length) : mpV (rs.drop i) = x :: mpV (rs.drop (i + 2)) := by
  rw [take_drop1 hx, List.drop_of_length_le (show rs.length ≤ i + 1 by omega), List.drop_of_length_le (show rs.length ≤ i + 2 by omega)]; rfl
theorem mp_two {rs : List Rn} {i : Nat} {x y : Rn} (hx : rs[i]? = some x) (hy : rs[i + 1]? = some y) : mpV (rs.drop i) = mgV x y :: mpV (rs.drop (i + 2)) := by
  rw [take_drop1 hx, take_drop1 hy, mpV]

theorem get_last {L : List Reg} {N : Reg} {n : Nat} (h : L.length = n) : (L ++ [N])[n]? = some N := by
  rw [List.getElem?_append_right (by omega), show n - L.length = 0 by omega]; rfl
/-- The rows of the runs so far and of one more. -/
theorem hle_pass {D S : Reg} {out : List Rn} {z : Rn} {A : List Reg} {k : Nat} (hE : A[k]? = some (rwR z)) : HLe ((out.length + A.length + 2) :: (List.range' 1 out.length ++ [1 + out.length + k])) (rnN (out ++ [z])) (D :: (nR rwT 75 out ++ A ++ [S]) ++ [⟨93, 1, nC 1 out ++ [.sl (1 + out.length + k) 0 z.length], 0⟩]) := by
  have hk : k < A.length := (List.getElem?_eq_some_iff.1 hE).1
  refine hle_push (get_last (by simp [nR_length]; omega)) ?_ (row_in (K0 := [D]) (D := A ++ [S] ++ [⟨93, 1, nC 1 out ++ [.sl (1 + out.length + k) 0 z.length], 0⟩]) rfl (by simp)) (by omega) (by omega) (by omega)
  rw [show 1 + out.length + k = (out.length + k) + 1 by omega, List.cons_append, List.getElem?_cons_succ, List.append_assoc, List.append_assoc, List.getElem?_append_right (by simp [nR_length]), nR_length, Nat.add_sub_cancel_left, List.getElem?_append_left hk]
  exact hE
theorem c_imp (rs : List Rn) (hl : rs.length ≤ 10000000) (ht : tot rs ≤ 10000000) : Meets Go.Proofs.Try.prog 58 [rnL rs] [] (.sl 0 0 (mpV rs).length) (rnN (mpV rs)) false := by
  have hlx : ∀ (i : Nat) (x : Rn), rs[i]? = some x → x.length ≤ 10000000 := fun i x hx => by
    have : x.length ≤ tot rs := mem_sum (List.mem_map.2 ⟨x, List.mem_of_getElem? hx, rfl⟩)
    omega
  refine meets_of [2] Go.Proofs.Try.func58 rfl rfl ?_
  simp only [Go.Proofs.Try.ntmps58, List.length_cons, List.length_nil, Nat.reduceAdd, Nat.reduceSub, List.replicate_succ, List.replicate_zero, List.cons_append, List.nil_append]
  repeat' first
    | refine aw_seq ?_
    | refine aw_region ?_
    | refine aw_lex [] ?_
    | (refine isA ?_; refine do_F rfl ?_)
    | (refine isL ?_; refine lex_F rfl (by kernel_rfl) rfl rfl ?_)
    | (refine isLg rfl ?_; refine lex_S rfl (by kernel_rfl) rfl rfl ?_)
    | refine aops_nil ?_
    | refine lex_done _ rfl (by kernel_rfl) ?_
    | refine aw_ct rfl ?_
    | refine aw_cf rfl ?_
    | refine aw_block ?_
    | refine then_n ?_
    | refine aw_skip ?_
    | refine aw_exit ?_
    | refine then_x ?_
    | refine then_r ?_
    | refine block_x ?_
    | refine block_n ?_
    | refine block_r ?_
    | refine aw_ret ?_
  refine aw_loop (α := { p : Nat × List Rn // p.1 ≤ rs.length + 1 ∧ p.2.length ≤ p.1 ∧ p.2 ++ mpV (rs.drop p.1) = mpV rs }) (fun p => ⟨[rnL rs, .any, .any, .sl 0 0 p.1.2.length, I p.1.1, .any, .any, .any, .any, .any, .any, .any, .any, .any, .any, .any, .any, .any, .any, .any, .any, .any, .any, .any, .any, .any, .any, .any, .any, .any, .any, .any, .any, .any, .any, .any, .any, .any, .any, .any, .any, .any, .any, .any], rnN p.1.2, 0⟩) (fun p => rs.length + 1 - p.1.1) ⟨(0, []), Nat.zero_le _, Nat.zero_le _, rfl⟩ ?_ ?_
  · exact sub_id rfl (by repeat' first | exact EqS.nil | refine EqS.any ?_ | refine EqS.same rfl ?_)
  · rintro ⟨⟨i, out⟩, hi, ho, hq⟩
    simp only at hi ho hq
    have hnl : (rnN out).length = out.length + 1 := by simp [nR_length]
    repeat' first
      | refine aw_seq ?_
      | refine aw_region ?_
      | refine aw_lex [] ?_
      | (refine isA ?_; refine do_F rfl ?_)
      | (refine isL ?_; refine lex_F rfl (by kernel_rfl) rfl rfl ?_)
      | (refine isLg rfl ?_; refine lex_S rfl (by kernel_rfl) rfl rfl ?_)
      | refine aops_nil ?_
      | refine lex_done _ rfl (by kernel_rfl) ?_
      | refine aw_ct rfl ?_
      | refine aw_cf rfl ?_
      | refine aw_block ?_
      | refine then_n ?_
      | refine aw_skip ?_
      | refine aw_exit ?_
      | refine then_x ?_
      | refine then_r ?_
      | refine block_x ?_
      | refine block_n ?_
      | refine block_r ?_
      | refine aw_ret ?_
    refine aw_cond rfl (fun h => ?_) (fun h => ?_)
    · have hlt : i < rs.length := by have := of_decide_eq_true h; simp only at this; omega
      obtain ⟨x, hx⟩ : ∃ z, rs[i]? = some z := ⟨_, List.getElem?_eq_getElem hlt⟩
      repeat' first
        | refine aw_seq ?_
        | refine aw_region ?_
        | refine aw_lex [] ?_
        | (refine isA ?_; refine do_F rfl ?_)
        | (refine isL ?_; refine lex_F rfl (by kernel_rfl) rfl rfl ?_)
        | (refine isLg rfl ?_; refine lex_S rfl (by kernel_rfl) rfl rfl ?_)
        | refine aops_nil ?_
        | refine lex_done _ rfl (by kernel_rfl) ?_
        | refine aw_ct rfl ?_
        | refine aw_cf rfl ?_
        | refine aw_block ?_
        | refine then_n ?_
        | refine aw_skip ?_
        | refine aw_exit ?_
        | refine then_x ?_
        | refine then_r ?_
        | refine block_x ?_
        | refine block_n ?_
        | refine block_r ?_
        | refine aw_ret ?_
      refine aw_cond rfl (fun k => ?_) (fun k => ?_)
      · have hk : i + 1 = rs.length := by
          have := of_decide_eq_true k
          have e : IntKind.i64.wrap ((i : Int) + 1) = (i : Int) + 1 := by rw [IntKind.wrap_i64]; omega
          simp only [e] at this
          omega
        repeat' first
          | refine aw_seq ?_
          | refine aw_region ?_
          | refine aw_lex [] ?_
          | (refine isA ?_; refine do_F rfl ?_)
          | (refine isL ?_; refine lex_F rfl (by kernel_rfl) rfl rfl ?_)
          | (refine isLg rfl ?_; refine lex_S rfl (by kernel_rfl) rfl rfl ?_)
          | (refine isAi (x := .tmp 18) ?_; refine do_R rfl (ia_l (t := rnT) (z := x) rfl rfl rfl rfl (Int.natCast_nonneg i) hx) rfl ?_)
          | (refine isLi (x := .tmp 18) rfl ?_; refine lex_R rfl (by kernel_rfl) rfl (ia_l (t := rnT) (z := x) rfl rfl rfl rfl (Int.natCast_nonneg i) hx) rfl ?_)
          | (refine isAc 89 ?_; refine do_R rfl (st_callK (r' := .sl (1 + out.length) 0 x.length) (H' := rnN out ++ [rwR x]) rfl (c_clone x (by have := hlx i x hx; omega)) (.cons (.same rfl) .nil) (fun q hq => by simp at hq; subst hq; exact flat_noH _ _) (by simp only [hnl, shV, Nat.zero_add]; rw [Nat.add_comm]) rfl) rfl ?_)
          | (refine isLc 89 rfl ?_; refine lex_R rfl (by kernel_rfl) rfl (st_callK (r' := .sl (1 + out.length) 0 x.length) (H' := rnN out ++ [rwR x]) rfl (c_clone x (by have := hlx i x hx; omega)) (.cons (.same rfl) .nil) (fun q hq => by simp at hq; subst hq; exact flat_noH _ _) (by simp only [hnl, shV, Nat.zero_add]; rw [Nat.add_comm]) rfl) rfl ?_)
          | (refine isAp ?_; refine do_R rfl (ap_nest (outs := out) (hz := (rnN out ++ [rwR x]).length) (zi := 1 + out.length) (n := x.length) rfl rfl rfl rfl (get_last rfl) (by omega) rfl) rfl ?_)
          | (refine isLp rfl ?_; refine lex_R rfl (by kernel_rfl) rfl (ap_nest (outs := out) (hz := (rnN out ++ [rwR x]).length) (zi := 1 + out.length) (n := x.length) rfl rfl rfl rfl (get_last rfl) (by omega) rfl) rfl ?_)
          | refine aops_nil ?_
          | refine lex_done _ rfl (by kernel_rfl) ?_
          | refine aw_ct rfl ?_
          | refine aw_cf rfl ?_
          | refine aw_block ?_
          | refine then_n ?_
          | refine aw_skip ?_
          | refine aw_exit ?_
          | refine then_x ?_
          | refine then_r ?_
          | refine block_x ?_
          | refine block_n ?_
          | refine block_r ?_
          | refine aw_ret ?_
        refine ⟨⟨(i + 2, out ++ [x]), by simp only; omega, by simp only [List.length_append, List.length_singleton]; omega, by simp only [List.append_assoc, List.singleton_append]; rw [← mp_one hx hk]; exact hq⟩, by simp only; omega, ?_⟩
        refine sub_of (((out.length + 1 + 2) :: (List.range' 1 out.length ++ [1 + out.length + 0]))) rfl (fun i hi => absurd hi (Nat.not_lt_zero _)) (hle_pass (A := [rwR x]) (k := 0) rfl) (by
          repeat' first
            | exact les_nil
            | refine les_cons ?_ ?_
            | exact le_any
            | exact le_refl rfl
            | exact le_sl (congrArg some (by simp [nR_length])) (by simp)
            | exact le_k (congrArg _ (show ((i + 2 : Nat) : Int) = IntKind.i64.wrap ((i : Int) + 2) by rw [IntKind.wrap_i64]; omega)))
      · have hk : i + 1 < rs.length := by
          have := of_decide_eq_false k
          have e : IntKind.i64.wrap ((i : Int) + 1) = (i : Int) + 1 := by rw [IntKind.wrap_i64]; omega
          simp only [e] at this
          omega
        have e1 : IntKind.i64.wrap ((i : Int) + 1) = ((i + 1 : Nat) : Int) := by rw [IntKind.wrap_i64]; omega
        obtain ⟨y, hy⟩ : ∃ z, rs[i + 1]? = some z := ⟨_, List.getElem?_eq_getElem hk⟩
        have l1 := hlx i x hx
        have l2 := hlx (i + 1) y hy
        have hml := mg_len x y
        repeat' first
          | refine aw_seq ?_
          | refine aw_region ?_
          | (refine isA ?_; refine do_F rfl ?_)
          | (refine isL ?_; refine lex_F rfl (by kernel_rfl) rfl rfl ?_)
          | (refine isLg rfl ?_; refine lex_S rfl (by kernel_rfl) rfl rfl ?_)
          | refine aops_nil ?_
          | refine lex_done _ rfl (by kernel_rfl) ?_
          | refine aw_ct rfl ?_
          | refine aw_cf rfl ?_
          | refine aw_block ?_
          | refine then_n ?_
          | refine aw_skip ?_
          | refine aw_exit ?_
          | refine then_x ?_
          | refine then_r ?_
          | refine block_x ?_
          | refine block_n ?_
          | refine block_r ?_
          | refine aw_ret ?_
        refine aw_per [12, 14, 15] 17 rfl ?_
        refine per_P 0 rfl (by kernel_rfl) rfl (fun _ => rfl) rfl ?_
        refine per_P 1 rfl (by kernel_rfl) rfl (fun _ => rfl) rfl ?_
        refine per_P 2 rfl (by kernel_rfl) rfl (fun _ => rfl) rfl ?_
        refine per_A 3 rfl (by kernel_rfl) rfl (fun _ => ia_l (t := rnT) (z := x) rfl rfl rfl rfl (Int.natCast_nonneg i) hx) rfl ?_
        refine per_P 4 rfl (by kernel_rfl) rfl (fun _ => rfl) rfl ?_
        refine per_P 5 rfl (by kernel_rfl) rfl (fun _ => rfl) rfl ?_
        refine per_P 6 rfl (by kernel_rfl) rfl (fun _ => rfl) rfl ?_
        refine per_P 7 rfl (by kernel_rfl) rfl (fun _ => rfl) rfl ?_
        refine per_P 8 rfl (by kernel_rfl) rfl (fun _ => rfl) rfl ?_
        refine per_A 9 rfl (by kernel_rfl) rfl (fun _ => ia_l (t := rnT) (z := y) rfl rfl rfl rfl (by rw [e1]; exact Int.natCast_nonneg _) (by rw [e1]; exact hy)) rfl ?_
        refine per_P 10 rfl (by kernel_rfl) rfl (fun _ => rfl) rfl ?_
        refine per_P 11 rfl (by kernel_rfl) rfl (fun _ => rfl) rfl ?_
        refine per_W 12 rfl (by kernel_rfl) rfl rfl (st_callK (r' := .sl (1 + out.length) 0 (mgV x y).length) (H' := rnN out ++ [rwR (mgV x y)]) rfl (c_img x y (by omega) (by omega)) (.cons (.same rfl) (.cons (.same rfl) .nil)) (fun q hq => by simp at hq; subst hq; exact flat_noH _ _) (by simp only [hnl, shV, Nat.zero_add]; rw [Nat.add_comm]) rfl) rfl ?_
        refine per_P 13 rfl (by kernel_rfl) rfl (fun _ => rfl) rfl ?_
        refine per_WF 14 rfl (by kernel_rfl) rfl rfl rfl rfl ?_
        refine per_W 15 rfl (by kernel_rfl) rfl rfl (ap_nest (outs := out) (hz := (rnN out ++ [rwR (mgV x y)]).length) (zi := 1 + out.length) (n := (mgV x y).length) rfl rfl rfl rfl (get_last rfl) (by omega) rfl) rfl ?_
        refine per_P 16 rfl (by kernel_rfl) rfl (fun _ => rfl) rfl ?_
        refine per_done (by kernel_rfl) ?_
        repeat' first
          | refine aw_seq ?_
          | refine aw_region ?_
          | refine aw_lex [] ?_
          | (refine isA ?_; refine do_F rfl ?_)
          | (refine isL ?_; refine lex_F rfl (by kernel_rfl) rfl rfl ?_)
          | (refine isLg rfl ?_; refine lex_S rfl (by kernel_rfl) rfl rfl ?_)
          | refine aops_nil ?_
          | refine lex_done _ rfl (by kernel_rfl) ?_
          | refine aw_ct rfl ?_
          | refine aw_cf rfl ?_
          | refine aw_block ?_
          | refine then_n ?_
          | refine aw_skip ?_
          | refine aw_exit ?_
          | refine then_x ?_
          | refine then_r ?_
          | refine block_x ?_
          | refine block_n ?_
          | refine block_r ?_
          | refine aw_ret ?_
        refine ⟨⟨(i + 2, out ++ [mgV x y]), by simp only; omega, by simp only [List.length_append, List.length_singleton]; omega, by simp only [List.append_assoc, List.singleton_append]; rw [← mp_two hx hy]; exact hq⟩, by simp only; omega, ?_⟩
        exact sub_of (((out.length + 1 + 2) :: (List.range' 1 out.length ++ [1 + out.length + 0]))) rfl (fun i hi => absurd hi (Nat.not_lt_zero _)) (hle_pass (A := [rwR (mgV x y)]) (k := 0) rfl) (by
          repeat' first
            | exact les_nil
            | refine les_cons ?_ ?_
            | exact le_any
            | exact le_refl rfl
            | exact le_sl (congrArg some (by simp [nR_length])) (by simp)
            | exact le_k (congrArg _ (show ((i + 2 : Nat) : Int) = IntKind.i64.wrap ((i : Int) + 2) by rw [IntKind.wrap_i64]; omega)))
    · have hge : rs.length ≤ i := by have := of_decide_eq_false h; simp only at this; omega
      rw [mp_end hge, List.append_nil] at hq
      subst hq
      repeat' first
        | refine aw_seq ?_
        | refine aw_region ?_
        | refine aw_lex [] ?_
        | (refine isA ?_; refine do_F rfl ?_)
        | (refine isL ?_; refine lex_F rfl (by kernel_rfl) rfl rfl ?_)
        | (refine isLg rfl ?_; refine lex_S rfl (by kernel_rfl) rfl rfl ?_)
        | exact finN _ rfl (hle_rn0 _) (le_sl rfl rfl) (Or.inr ⟨rfl, rnN_flatS _⟩)
        | refine aops_nil ?_
        | refine lex_done _ rfl (by kernel_rfl) ?_
        | refine aw_ct rfl ?_
        | refine aw_cf rfl ?_
        | refine aw_block ?_
        | refine then_n ?_
        | refine aw_skip ?_
        | refine aw_exit ?_
        | refine then_x ?_
        | refine then_r ?_
        | refine block_x ?_
        | refine block_n ?_
        | refine block_r ?_
        | refine aw_ret ?_
theorem ap_new {o : Oper} {ρ : Operand → V} {H : List Reg} {s x : Operand} {n : Nat} {ys : List Rw} (ho : o.op = .call { callee := .builtin .append, args := #[s, x], argTypes := #[25, 25] }) (hs : ρ s = .sl n 0 0) (hn : n = H.length) (hx : ρ x = rwL ys) (hl : ys.length ≤ 1000000000) :
    Step Go.Proofs.Try.prog o ρ (H ++ [⟨75, 3, [], 0⟩]) (.sl (H.length + 1) 0 ys.length) (H ++ [⟨75, 3, [], 2⟩] ++ [rwR ys]) := by
  subst hn
  have hg : (H ++ [⟨75, 3, [], 0⟩])[H.length]? = some (regOf rwT 75 ([] : List Rw)) := get_last rfl
  have q := ap_l (P := Go.Proofs.Try.prog) (t := rwT) (xs := ([] : List Rw)) (ys := ys) ho hs hg rfl (by rw [hx]; exact Src.lst _ _) (by simp; omega) rfl
  have e : (H ++ [⟨75, 3, [], 0⟩] : List Reg).set H.length ⟨75, rwT.n, rwT.flat [], 2⟩ = H ++ [⟨75, 3, [], 2⟩] := by
    rw [List.set_append_right _ _ (Nat.le_refl _), Nat.sub_self]; rfl
  rw [e, List.length_append] at q
  exact q
theorem c_smp (rs : List Rn) (hl : rs.length ≤ 10000000) (ht : tot rs ≤ 10000000) : Meets Go.Proofs.Try.prog 57 [rnL rs] [] (.sl 0 0 (mpV rs).length) (rnN (mpV rs)) false := by
  have hlx : ∀ (i : Nat) (x : Rn), rs[i]? = some x → x.length ≤ 10000000 := fun i x hx => by
    have : x.length ≤ tot rs := mem_sum (List.mem_map.2 ⟨x, List.mem_of_getElem? hx, rfl⟩)
    omega
  refine meets_of [2] Go.Proofs.Try.func57 rfl rfl ?_
  simp only [Go.Proofs.Try.ntmps57, List.length_cons, List.length_nil, Nat.reduceAdd, Nat.reduceSub, List.replicate_succ, List.replicate_zero, List.cons_append, List.nil_append]
  repeat' first
    | refine aw_seq ?_
    | refine aw_region ?_
    | refine aw_lex [] ?_
    | (refine isA ?_; refine do_F rfl ?_)
    | (refine isL ?_; refine lex_F rfl (by kernel_rfl) rfl rfl ?_)
    | (refine isLg rfl ?_; refine lex_S rfl (by kernel_rfl) rfl rfl ?_)
    | refine aops_nil ?_
    | refine lex_done _ rfl (by kernel_rfl) ?_
    | refine aw_ct rfl ?_
    | refine aw_cf rfl ?_
    | refine aw_block ?_
    | refine then_n ?_
    | refine aw_skip ?_
    | refine aw_exit ?_
    | refine then_x ?_
    | refine then_r ?_
    | refine block_x ?_
    | refine block_n ?_
    | refine block_r ?_
    | refine aw_ret ?_
  refine aw_loop (α := { p : Nat × List Rn // p.1 ≤ rs.length + 1 ∧ p.2.length ≤ p.1 ∧ p.2 ++ mpV (rs.drop p.1) = mpV rs }) (fun p => ⟨[rnL rs, .any, .any, .sl 0 0 p.1.2.length, I p.1.1, .any, .any, .any, .any, .any, .any, .any, .any, .any, .any, .any, .any, .any, .any, .any, .any, .any, .any, .any, .any, .any, .any, .any, .any, .any, .any, .any, .any, .any, .any, .any, .any, .any, .any, .any, .any, .any, .any, .any, .any], rnN p.1.2, 0⟩) (fun p => rs.length + 1 - p.1.1) ⟨(0, []), Nat.zero_le _, Nat.zero_le _, rfl⟩ ?_ ?_
  · exact sub_id rfl (by repeat' first | exact EqS.nil | refine EqS.any ?_ | refine EqS.same rfl ?_)
  · rintro ⟨⟨i, out⟩, hi, ho, hq⟩
    simp only at hi ho hq
    have hnl : (rnN out).length = out.length + 1 := by simp [nR_length]
    repeat' first
      | refine aw_seq ?_
      | refine aw_region ?_
      | refine aw_lex [] ?_
      | (refine isA ?_; refine do_F rfl ?_)
      | (refine isL ?_; refine lex_F rfl (by kernel_rfl) rfl rfl ?_)
      | (refine isLg rfl ?_; refine lex_S rfl (by kernel_rfl) rfl rfl ?_)
      | refine aops_nil ?_
      | refine lex_done _ rfl (by kernel_rfl) ?_
      | refine aw_ct rfl ?_
      | refine aw_cf rfl ?_
      | refine aw_block ?_
      | refine then_n ?_
      | refine aw_skip ?_
      | refine aw_exit ?_
      | refine then_x ?_
      | refine then_r ?_
      | refine block_x ?_
      | refine block_n ?_
      | refine block_r ?_
      | refine aw_ret ?_
    refine aw_cond rfl (fun h => ?_) (fun h => ?_)
    · have hlt : i < rs.length := by have := of_decide_eq_true h; simp only at this; omega
      obtain ⟨x, hx⟩ : ∃ z, rs[i]? = some z := ⟨_, List.getElem?_eq_getElem hlt⟩
      repeat' first
        | refine aw_seq ?_
        | refine aw_region ?_
        | refine aw_lex [] ?_
        | (refine isA ?_; refine do_F rfl ?_)
        | (refine isL ?_; refine lex_F rfl (by kernel_rfl) rfl rfl ?_)
        | (refine isLg rfl ?_; refine lex_S rfl (by kernel_rfl) rfl rfl ?_)
        | refine aops_nil ?_
        | refine lex_done _ rfl (by kernel_rfl) ?_
        | refine aw_ct rfl ?_
        | refine aw_cf rfl ?_
        | refine aw_block ?_
        | refine then_n ?_
        | refine aw_skip ?_
        | refine aw_exit ?_
        | refine then_x ?_
        | refine then_r ?_
        | refine block_x ?_
        | refine block_n ?_
        | refine block_r ?_
        | refine aw_ret ?_
      refine aw_cond rfl (fun k => ?_) (fun k => ?_)
      · have hk : i + 1 = rs.length := by
          have := of_decide_eq_true k
          have e : IntKind.i64.wrap ((i : Int) + 1) = (i : Int) + 1 := by rw [IntKind.wrap_i64]; omega
          simp only [e] at this
          omega
        have l1 := hlx i x hx
        repeat' first
          | (refine isAp ?_; refine do_R rfl (ap_new (H := rnN out) (n := (rnN out).length) (ys := x) rfl rfl rfl rfl (by omega)) rfl ?_)
          | refine aw_seq ?_
          | refine aw_region ?_
          | refine aw_lex [] ?_
          | (refine isA ?_; refine do_F rfl ?_)
          | (refine isL ?_; refine lex_F rfl (by kernel_rfl) rfl rfl ?_)
          | (refine isLg rfl ?_; refine lex_S rfl (by kernel_rfl) rfl rfl ?_)
          | (refine isAi (x := .tmp 19) ?_; refine do_R rfl (ia_l (t := rnT) (z := x) rfl rfl rfl rfl (Int.natCast_nonneg i) hx) rfl ?_)
          | (refine isLi (x := .tmp 19) rfl ?_; refine lex_R rfl (by kernel_rfl) rfl (ia_l (t := rnT) (z := x) rfl rfl rfl rfl (Int.natCast_nonneg i) hx) rfl ?_)
          | (refine isAp ?_; refine do_R rfl (ap_nest (outs := out) (hz := (rnN out ++ [(⟨75, 3, [], 2⟩ : Reg)] ++ [rwR x]).length) (zi := (rnN out).length + 1) (n := x.length) rfl rfl rfl rfl (get_last rfl) (by omega) rfl) rfl ?_)
          | (refine isLp rfl ?_; refine lex_R rfl (by kernel_rfl) rfl (ap_nest (outs := out) (hz := (rnN out ++ [(⟨75, 3, [], 2⟩ : Reg)] ++ [rwR x]).length) (zi := (rnN out).length + 1) (n := x.length) rfl rfl rfl rfl (get_last rfl) (by omega) rfl) rfl ?_)
          | refine aops_nil ?_
          | refine lex_done _ rfl (by kernel_rfl) ?_
          | refine aw_ct rfl ?_
          | refine aw_cf rfl ?_
          | refine aw_block ?_
          | refine then_n ?_
          | refine aw_skip ?_
          | refine aw_exit ?_
          | refine then_x ?_
          | refine then_r ?_
          | refine block_x ?_
          | refine block_n ?_
          | refine block_r ?_
          | refine aw_ret ?_
        refine ⟨⟨(i + 2, out ++ [x]), by simp only; omega, by simp only [List.length_append, List.length_singleton]; omega, by simp only [List.append_assoc, List.singleton_append]; rw [← mp_one hx hk]; exact hq⟩, by simp only; omega, ?_⟩
        exact sub_of (((out.length + 2 + 2) :: (List.range' 1 out.length ++ [out.length + 1 + 1]))) rfl (fun i hi => absurd hi (Nat.not_lt_zero _)) (show HLe _ _ (_ :: (nR rwT 75 out ++ [⟨75, 3, [], 2⟩] ++ [rwR x] ++ [_]) ++ [_]) from by have q := hle_pass (D := ⟨93, 1, nC 1 out, 2⟩) (S := ⟨93, 1, [.sl ((rnN out).length + 1) 0 x.length], 0⟩) (out := out) (z := x) (A := [⟨75, 3, [], 2⟩, rwR x]) (k := 1) rfl; rw [hnl]; rw [hnl, show 1 + out.length + 1 = out.length + 1 + 1 by omega] at q; simp only [List.append_assoc, List.cons_append, List.nil_append] at q ⊢; exact q) (by
          repeat' first
            | exact les_nil
            | refine les_cons ?_ ?_
            | exact le_any
            | exact le_refl rfl
            | exact le_sl (congrArg some (by simp [nR_length])) (by simp)
            | exact le_k (congrArg _ (show ((i + 2 : Nat) : Int) = IntKind.i64.wrap ((i : Int) + 2) by rw [IntKind.wrap_i64]; omega)))
      · have hk : i + 1 < rs.length := by
          have := of_decide_eq_false k
          have e : IntKind.i64.wrap ((i : Int) + 1) = (i : Int) + 1 := by rw [IntKind.wrap_i64]; omega
          simp only [e] at this
          omega
        have e1 : IntKind.i64.wrap ((i : Int) + 1) = ((i + 1 : Nat) : Int) := by rw [IntKind.wrap_i64]; omega
        obtain ⟨y, hy⟩ : ∃ z, rs[i + 1]? = some z := ⟨_, List.getElem?_eq_getElem hk⟩
        have l1 := hlx i x hx
        have l2 := hlx (i + 1) y hy
        have hml := mg_len x y
        repeat' first
          | refine aw_seq ?_
          | refine aw_region ?_
          | (refine isA ?_; refine do_F rfl ?_)
          | (refine isL ?_; refine lex_F rfl (by kernel_rfl) rfl rfl ?_)
          | (refine isLg rfl ?_; refine lex_S rfl (by kernel_rfl) rfl rfl ?_)
          | refine aops_nil ?_
          | refine lex_done _ rfl (by kernel_rfl) ?_
          | refine aw_ct rfl ?_
          | refine aw_cf rfl ?_
          | refine aw_block ?_
          | refine then_n ?_
          | refine aw_skip ?_
          | refine aw_exit ?_
          | refine then_x ?_
          | refine then_r ?_
          | refine block_x ?_
          | refine block_n ?_
          | refine block_r ?_
          | refine aw_ret ?_
        refine aw_per [12, 14, 15] 17 rfl ?_
        refine per_P 0 rfl (by kernel_rfl) rfl (fun _ => rfl) rfl ?_
        refine per_P 1 rfl (by kernel_rfl) rfl (fun _ => rfl) rfl ?_
        refine per_P 2 rfl (by kernel_rfl) rfl (fun _ => rfl) rfl ?_
        refine per_A 3 rfl (by kernel_rfl) rfl (fun _ => ia_l (t := rnT) (z := x) rfl rfl rfl rfl (Int.natCast_nonneg i) hx) rfl ?_
        refine per_P 4 rfl (by kernel_rfl) rfl (fun _ => rfl) rfl ?_
        refine per_P 5 rfl (by kernel_rfl) rfl (fun _ => rfl) rfl ?_
        refine per_P 6 rfl (by kernel_rfl) rfl (fun _ => rfl) rfl ?_
        refine per_P 7 rfl (by kernel_rfl) rfl (fun _ => rfl) rfl ?_
        refine per_P 8 rfl (by kernel_rfl) rfl (fun _ => rfl) rfl ?_
        refine per_A 9 rfl (by kernel_rfl) rfl (fun _ => ia_l (t := rnT) (z := y) rfl rfl rfl rfl (by rw [e1]; exact Int.natCast_nonneg _) (by rw [e1]; exact hy)) rfl ?_
        refine per_P 10 rfl (by kernel_rfl) rfl (fun _ => rfl) rfl ?_
        refine per_P 11 rfl (by kernel_rfl) rfl (fun _ => rfl) rfl ?_
        refine per_W 12 rfl (by kernel_rfl) rfl rfl (st_callK (r' := .sl (1 + out.length) 0 (mgV x y).length) (H' := rnN out ++ [rwR (mgV x y)]) rfl (c_smg x y (by omega) (by omega)) (.cons (.same rfl) (.cons (.same rfl) .nil)) (fun q hq => by simp at hq; subst hq; exact flat_noH _ _) (by simp only [hnl, shV, Nat.zero_add]; rw [Nat.add_comm]) rfl) rfl ?_
        refine per_P 13 rfl (by kernel_rfl) rfl (fun _ => rfl) rfl ?_
        refine per_WF 14 rfl (by kernel_rfl) rfl rfl rfl rfl ?_
        refine per_W 15 rfl (by kernel_rfl) rfl rfl (ap_nest (outs := out) (hz := (rnN out ++ [rwR (mgV x y)]).length) (zi := 1 + out.length) (n := (mgV x y).length) rfl rfl rfl rfl (get_last rfl) (by omega) rfl) rfl ?_
        refine per_P 16 rfl (by kernel_rfl) rfl (fun _ => rfl) rfl ?_
        refine per_done (by kernel_rfl) ?_
        repeat' first
          | refine aw_seq ?_
          | refine aw_region ?_
          | refine aw_lex [] ?_
          | (refine isA ?_; refine do_F rfl ?_)
          | (refine isL ?_; refine lex_F rfl (by kernel_rfl) rfl rfl ?_)
          | (refine isLg rfl ?_; refine lex_S rfl (by kernel_rfl) rfl rfl ?_)
          | refine aops_nil ?_
          | refine lex_done _ rfl (by kernel_rfl) ?_
          | refine aw_ct rfl ?_
          | refine aw_cf rfl ?_
          | refine aw_block ?_
          | refine then_n ?_
          | refine aw_skip ?_
          | refine aw_exit ?_
          | refine then_x ?_
          | refine then_r ?_
          | refine block_x ?_
          | refine block_n ?_
          | refine block_r ?_
          | refine aw_ret ?_
        refine ⟨⟨(i + 2, out ++ [mgV x y]), by simp only; omega, by simp only [List.length_append, List.length_singleton]; omega, by simp only [List.append_assoc, List.singleton_append]; rw [← mp_two hx hy]; exact hq⟩, by simp only; omega, ?_⟩
        exact sub_of (((out.length + 1 + 2) :: (List.range' 1 out.length ++ [1 + out.length + 0]))) rfl (fun i hi => absurd hi (Nat.not_lt_zero _)) (hle_pass (A := [rwR (mgV x y)]) (k := 0) rfl) (by
          repeat' first
            | exact les_nil
            | refine les_cons ?_ ?_
            | exact le_any
            | exact le_refl rfl
            | exact le_sl (congrArg some (by simp [nR_length])) (by simp)
            | exact le_k (congrArg _ (show ((i + 2 : Nat) : Int) = IntKind.i64.wrap ((i : Int) + 2) by rw [IntKind.wrap_i64]; omega)))
    · have hge : rs.length ≤ i := by have := of_decide_eq_false h; simp only at this; omega
      rw [mp_end hge, List.append_nil] at hq
      subst hq
      repeat' first
        | refine aw_seq ?_
        | refine aw_region ?_
        | refine aw_lex [] ?_
        | (refine isA ?_; refine do_F rfl ?_)
        | (refine isL ?_; refine lex_F rfl (by kernel_rfl) rfl rfl ?_)
        | (refine isLg rfl ?_; refine lex_S rfl (by kernel_rfl) rfl rfl ?_)
        | exact finN _ rfl (hle_rn0 _) (le_sl rfl rfl) (Or.inr ⟨rfl, rnN_flatS _⟩)
        | refine aops_nil ?_
        | refine lex_done _ rfl (by kernel_rfl) ?_
        | refine aw_ct rfl ?_
        | refine aw_cf rfl ?_
        | refine aw_block ?_
        | refine then_n ?_
        | refine aw_skip ?_
        | refine aw_exit ?_
        | refine then_x ?_
        | refine then_r ?_
        | refine block_x ?_
        | refine block_n ?_
        | refine block_r ?_
        | refine aw_ret ?_
end Go.Proofs.Ytngeppmincgebaa.Ab
