/-
  LISTS OF LISTS, HANDED TO A CALLEE.
-/
import Derived.Test.YtkcicbigpbdjpaaAb3
namespace Go.Proofs.Ytkcicbigpbdjpaa.Ab
open Go.RowKit
set_option linter.unusedVariables false
set_option linter.unusedSimpArgs false

theorem setAll_mid {K0 K K' D : List Reg} (h : K'.length = K.length) : setAll (K0 ++ K ++ D) (List.range' K0.length K.length) K' = K0 ++ K' ++ D := by
  refine List.ext_getElem? fun i => ?_
  by_cases hi : i ∈ List.range' K0.length K.length
  · obtain ⟨j, hj⟩ := List.getElem?_of_mem hi
    rw [setAll_at _ _ _ List.nodup_range' (by simp [h]) (fun x hx => by rw [List.mem_range'_1] at hx; simp; omega) j i hj]
    have e : j < K.length ∧ i = K0.length + j := by
      obtain ⟨q1, q2⟩ := List.getElem?_eq_some_iff.1 hj
      simp at q1 q2
      omega
    rw [e.2, List.append_assoc, List.getElem?_append_right (by omega), Nat.add_sub_cancel_left, List.getElem?_append_left (by omega)]
  · rw [setAll_keep _ _ _ _ hi]
    rw [List.mem_range'_1] at hi
    rcases Nat.lt_or_ge i K0.length with h1 | h1
    · rw [List.append_assoc, List.append_assoc, List.getElem?_append_left h1, List.getElem?_append_left h1]
    · have h2 : K0.length + K.length ≤ i := by omega
      rw [List.getElem?_append_right (by simp; omega), List.getElem?_append_right (by simp; omega)]
      simp only [List.length_append, h]

section
variable {α : Type} {T : Ty α} {e : TypeId}
theorem range_at (h n j : Nat) (hj : j < n) : (List.range' h n)[j]? = some (h + j) := by simp [hj]
theorem bk_range {h n N j : Nat} (hj : j < n) : bkI (List.range' h n) N j = h + j := by rw [bkI, range_at h n j hj]; rfl
theorem pass_nC {h n : Nat} : ∀ {b b' : Nat} {rs : List (List α)}, b' = h + b → b + rs.length ≤ n → PassS (List.range' h n) (nC b' rs) (nC b rs)
  | _, _, [], _, _ => .nil
  | b, b', x :: xs, hb, hl => by
    simp only [List.length_cons] at hl
    exact .cons (.sl (by rw [hb]; exact range_at h n b (by omega))) (pass_nC (by omega) (by omega))
theorem bk_nC {h n N : Nat} : ∀ {b b' : Nat} {rs : List (List α)}, b' = h + b → b + rs.length ≤ n → BkS (List.range' h n) N (nC b rs) (nC b' rs)
  | _, _, [], _, _ => .nil
  | b, b', x :: xs, hb, hl => by
    simp only [List.length_cons] at hl
    exact .cons (.sl (by rw [hb]; exact bk_range (by omega))) (bk_nC (by omega) (by omega))
theorem give_nR {H : List Reg} {hs0 : List Nat} {N : Nat} : ∀ {b : Nat} {rs ss : List (List α)}, ss.map List.length = rs.map List.length → (∀ j x, rs[j]? = some x → H[b + j]? = some (regOf T e x)) → GiveN H hs0 N (List.range' b rs.length) (nR T e rs) (nR T e ss) (nR T e ss)
  | _, [], [], _, _ => .nil
  | b, x :: xs, y :: ys, hl, hR => by
    simp only [List.map_cons, List.cons.injEq] at hl
    exact .cons (R0 := regOf T e x) (R' := regOf T e y) (cs := T.flat x) (cs2 := T.flat y) (hR 0 x rfl) rfl (passS_noH (flat_noH T x)) (by simp) (.rest (flat_noH T y)) (give_nR hl.2 fun j z hz => by have := hR (j + 1) z (by simpa using hz); rw [show b + 1 + j = b + (j + 1) by omega]; exact this)
  | _, [], y :: ys, hl, _ => by simp at hl
  | _, x :: xs, [], hl, _ => by simp at hl
/-- A list of lists, handed over: its outer row h, its inner ones behind it. -/
theorem give_nest {H : List Reg} {h ty N : Nat} {rs ss : List (List α)} (hl : ss.map List.length = rs.map List.length) (hH : H[h]? = some ⟨ty, 1, nC (h + 1) rs, 0⟩) (hR : ∀ j x, rs[j]? = some x → H[h + 1 + j]? = some (regOf T e x)) :
    GiveN H (List.range' h (rs.length + 1)) N (List.range' h (rs.length + 1)) (⟨ty, 1, nC 1 rs, 0⟩ :: nR T e rs) (⟨ty, 1, nC 1 ss, 0⟩ :: nR T e ss) (⟨ty, 1, nC (h + 1) ss, 0⟩ :: nR T e ss) := by
  have hl' : ss.length = rs.length := by have := congrArg List.length hl; simpa using this
  exact .cons (R0 := ⟨ty, 1, nC (h + 1) rs, 0⟩) (R' := ⟨ty, 1, nC 1 ss, 0⟩) hH rfl (pass_nC rfl (by omega)) (by simp) (bk_nC rfl (by omega)) (give_nR hl hR)
theorem nest_sh (n ty : Nat) (rs : List (List α)) : ((⟨ty, 1, nC 1 rs, 0⟩ :: nR T e rs : List Reg)).map (shR n) = ⟨ty, 1, nC (1 + n) rs, 0⟩ :: nR T e rs := by
  rw [List.map_cons, nR_sh]
  simp only [shR, shVs_nC]
theorem row_in {H D : List Reg} {rs : List (List α)} {b : Nat} {K0 : List Reg} (hb : b = K0.length) (hH : H = K0 ++ nR T e rs ++ D) : ∀ j x, rs[j]? = some x → H[b + j]? = some (regOf T e x) := fun j x hx => by
  subst hb
  subst hH
  rw [List.append_assoc, List.getElem?_append_right (Nat.le_add_right _ _), Nat.add_sub_cancel_left]
  exact app_left (nR_at hx)
end

section
variable {P : Program} {o : Oper} {ρ : Operand → V} {H : List Reg}
/-- The same, no new rows. -/
theorem st_callN0 {f : FuncId} {args : List Operand} {ats : Array TypeId} {cargs : List V} {r r2 : V} {Rs Rs' R2 H' : List Reg} {al : Bool} (hs : List Nat) (hnd : hs.Nodup) [he : Ent P f] (ho : o.op = .call { callee := .value (.func f), args := args.toArray, argTypes := ats })
    (hm : Meets P f cargs Rs r Rs' al) (hg : GiveN H hs H.length hs Rs Rs' R2) (hargs : PassS hs (args.map ρ) cargs) (hr : Bk hs H.length r r2) (hH : setAll H hs R2 = H') : Step P o ρ H r2 H' := by
  refine st_callN (K := []) (K2 := []) hs hnd ho (by rw [List.append_nil]; exact hm) hg hargs .nil hr (by rw [List.append_nil]; exact hH)
end
end Go.Proofs.Ytkcicbigpbdjpaa.Ab
