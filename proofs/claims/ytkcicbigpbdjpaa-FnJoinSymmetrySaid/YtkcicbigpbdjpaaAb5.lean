/-
  The abstract walk: lists of lists that grow.
-/
import Derived.Test.YtkcicbigpbdjpaaAb4
namespace Go.Proofs.Ytkcicbigpbdjpaa.Ab
open Go.RowKit
set_option linter.unusedVariables false
set_option linter.unusedSimpArgs false

section
variable {P : Program} {o : Oper} {ρ : Operand → V} {H : List Reg} {α : Type} {T : Ty α}
/-- A row more, behind the rows of a list of lists. -/
theorem ap_nest {ty e b h hz zi : Nat} {s x : Operand} {outs : List (List α)} {n : Nat} [ht : Sl P ty e 1 b] (ho : o.op = .call { callee := .builtin .append, args := #[s, x], argTypes := #[ty, ty] })
    (hs : ρ s = .sl h 0 outs.length) (hH : H[h]? = some ⟨e, 1, nC 1 outs, 0⟩) (hx : ρ x = .sl hz 0 1) (hzz : H[hz]? = some ⟨e, 1, [.sl zi 0 n], 0⟩) (hb : (outs.length + 1) * b ≤ 140737488355328) (hbp : decide (0 < b) = true) :
    Step P o ρ H (.sl H.length 0 (outs.length + 1)) (H.set h ⟨e, 1, nC 1 outs, 2⟩ ++ [⟨e, 1, nC 1 outs ++ [.sl zi 0 n], 0⟩]) := by
  have hb0 : 0 < b := of_decide_eq_true hbp
  have hsrc : Src H (ρ x) 1 [.sl zi 0 n] := by
    rw [hx]
    have := Src.sl (H := H) (off := 0) (m := 1) (r := ⟨e, 1, [.sl zi 0 n], 0⟩) hzz (Nat.zero_le _) (Nat.le_refl _)
    exact this
  have := step_append (P := P) (ρ := ρ) (ty := ty) (m := 1) ho hs hH rfl rfl rfl (by show outs.length * 1 ≤ (nC 1 outs).length; rw [nC_length]; omega) hsrc rfl (fun c hc => by simp at hc; subst hc; rfl) hb (by
    have := Nat.le_mul_of_pos_right (outs.length + 1) hb0
    simp only [maxLen]
    omega)
  have e1 : (⟨e, 1, nC 1 outs, 0⟩ : Reg).cells.take (outs.length * 1) = nC 1 outs := by
    show (nC 1 outs).take _ = _
    rw [List.take_of_length_le]
    rw [nC_length]; omega
  rw [e1] at this
  exact this
theorem nC_snoc (b : Nat) (outs : List (List α)) (z : List α) : nC b (outs ++ [z]) = nC b outs ++ [.sl (b + outs.length) 0 z.length] := by
  rw [nC_append]; rfl
/-- The rows of a list of lists that has grown. -/
theorem hle_push {outs : List (List α)} {z : List α} {e i zi ty : Nat} (hO : H[i]? = some ⟨ty, 1, nC 1 outs ++ [.sl zi 0 z.length], 0⟩) (hz : H[zi]? = some (regOf T e z)) (hR : ∀ j x, outs[j]? = some x → H[1 + j]? = some (regOf T e x))
    (h1 : outs.length < zi) (h2 : outs.length < i) (h3 : i ≠ zi) : HLe (i :: (List.range' 1 outs.length ++ [zi])) (⟨ty, 1, nC 1 (outs ++ [z]), 0⟩ :: nR T e (outs ++ [z])) H := by
  have hrl : (List.range' 1 outs.length).length = outs.length := by simp
  refine ⟨by simp [nR_length], ?_, fun k h hk => ?_⟩
  · rw [List.nodup_cons, List.nodup_append]
    refine ⟨?_, List.nodup_range', by simp, fun a ha c hc => ?_⟩
    · rw [List.mem_append, List.mem_range'_1, List.mem_singleton]
      omega
    · rw [List.mem_range'_1] at ha
      simp at hc
      omega
  · cases k with
    | zero =>
      simp at hk
      subst hk
      refine ⟨_, _, rfl, hO, fun _ => ⟨rfl, rfl, rfl, ?_⟩⟩
      show Les _ (nC 1 (outs ++ [z])) (nC 1 outs ++ [.sl zi 0 z.length])
      have hl : ∀ (b n m : Nat) (A : List (List α)), (∀ j, j < A.length → (i :: (List.range' 1 outs.length ++ [zi]))[b + j]? = some (b + j)) → (i :: (List.range' 1 outs.length ++ [zi]))[b + A.length]? = some zi →
          Les (i :: (List.range' 1 outs.length ++ [zi])) (nC b A ++ [.sl (b + A.length) 0 z.length]) (nC b A ++ [.sl zi 0 z.length]) := fun b n m A => by
        induction A generalizing b with
        | nil => exact fun _ h => les_cons (le_sl h rfl) les_nil
        | cons x A ih => exact fun h hzz => les_cons (le_sl (h 0 (by simp)) rfl) (by
            have := ih (b + 1) (fun j hj => by have := h (j + 1) (by simp; omega); rw [show b + 1 + j = b + (j + 1) by omega]; exact this) (by rw [show b + 1 + A.length = b + (x :: A).length by simp; omega]; exact hzz)
            rw [show b + (x :: A).length = b + 1 + A.length by simp; omega]
            exact this)
      rw [nC_snoc]
      refine hl 1 0 0 outs (fun j hj => ?_) ?_
      · rw [Nat.add_comm 1 j, List.getElem?_cons_succ, List.getElem?_append_left (by rw [hrl]; exact hj)]
        simp [hj]; omega
      · rw [Nat.add_comm 1, List.getElem?_cons_succ, List.getElem?_append_right (by rw [hrl]; exact Nat.le_refl _), hrl, Nat.sub_self]; rfl
    | succ k =>
      rw [List.getElem?_cons_succ] at hk
      rcases Nat.lt_or_ge k outs.length with hlt | hge
      · rw [List.getElem?_append_left (by rw [hrl]; exact hlt)] at hk
        have hh : h = 1 + k := by
          obtain ⟨_, q⟩ := List.getElem?_eq_some_iff.1 hk
          simp at q
          omega
        subst hh
        have hx := List.getElem?_eq_getElem hlt
        refine ⟨_, _, ?_, hR _ _ hx, fun _ => ⟨rfl, rfl, rfl, les_refl (flat_noH T _)⟩⟩
        rw [List.getElem?_cons_succ]
        exact nR_at (by rw [List.getElem?_append_left hlt]; exact hx)
      · rw [List.getElem?_append_right (by rw [hrl]; exact hge), hrl] at hk
        have hk0 : k - outs.length = 0 := by
          have := (List.getElem?_eq_some_iff.1 hk).1
          simp at this
          exact this
        rw [hk0] at hk
        simp at hk
        subst hk
        refine ⟨_, _, ?_, hz, fun _ => ⟨rfl, rfl, rfl, les_refl (flat_noH T _)⟩⟩
        rw [List.getElem?_cons_succ]
        exact nR_at (by rw [List.getElem?_append_right hge, hk0]; rfl)
end
section
variable {P : Program} {ops : Array Oper} {ds : List Nat} {k : Nat} {Q : Exit → St → Prop} {S : St}
theorem isLbs {d : Option Tmp} {t : TypeId} {n : Nat} {els : Array (Nat × Operand)} {ty : TypeId} {p : String} {a : Array Edge} {g : Option (Nat × Bool)} (ho : ops[k]? = some ⟨d, .buildSlice t n els, ty, p, a, g⟩) (h : ALex P ops ds k Q S) : ALex P ops ds k Q S := h
end
end Go.Proofs.Ytkcicbigpbdjpaa.Ab
