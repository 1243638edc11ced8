/- Plain lemmas: two slices of rows merged, by the program and by the reference. -/
import Derived.Test.YtngeppmincgebaaPx0
import Derived.Test.YtngeppmincgebaaPx14
import Derived.Test.YtngeppmincgebaaPx16
import Derived.Test.YtngeppmincgebaaBase
import Derived.Test.YtngeppmincgebaaCmp
namespace Go.Proofs.Ytngeppmincgebaa.Pure
open Go.RowKit Go.Proofs.Ytngeppmincgebaa.P Go.Proofs.YtngeppmincgebaaW.PrintWords Go.Proofs.YtngeppmincgebaaW.PrintLast

def leR (x y : S75) : Bool := decide (cmpR x y ≤ 0)
def mrg (a b : List S75) : List S75 := a.merge b leR
theorem mrg_nil_left (b : List S75) : mrg [] b = b := List.nil_merge _
theorem mrg_nil_right (a : List S75) : mrg a [] = a := List.merge_right _
theorem mrg_left (x y : S75) (a b : List S75) (h : cmpR x y ≤ 0) : mrg (x :: a) (y :: b) = x :: mrg a (y :: b) := by
  unfold mrg
  rw [List.cons_merge_cons, if_pos (show leR x y = true from decide_eq_true h)]
theorem mrg_right (x y : S75) (a b : List S75) (h : ¬ cmpR x y ≤ 0) : mrg (x :: a) (y :: b) = y :: mrg (x :: a) b := by
  unfold mrg
  rw [List.cons_merge_cons, if_neg (show ¬ leR x y = true from fun e => h (of_decide_eq_true e))]
theorem mrg_perm (a b : List S75) : (mrg a b).Perm (a ++ b) := List.merge_perm_append _
theorem mrg_len (a b : List S75) : (mrg a b).length = a.length + b.length := by
  rw [(mrg_perm a b).length_eq, List.length_append]
theorem snoc_cons {α : Type} (out : List α) (x : α) (l : List α) : out ++ [x] ++ l = out ++ x :: l := by simp
theorem mrg_impl_go (d : Nat) : ∀ (k : Nat) (a b out : List S75), a.length + b.length = d → out.length + d ≤ 1000000000000 → 2 * d + 4 < k → impl_MergeSorted.l0 k a b out = some (out ++ mrg a b) := by
  induction d with
  | zero =>
    intro k a b out hd ho hk
    obtain ⟨k, rfl⟩ : ∃ m, k = m + 2 := ⟨k - 2, by omega⟩
    obtain rfl : a = [] := List.eq_nil_of_length_eq_zero (by omega)
    obtain rfl : b = [] := List.eq_nil_of_length_eq_zero (by omega)
    simp only [impl_MergeSorted.l0, impl_MergeSorted.j1, mrg_nil_left]
    simp
  | succ d ih =>
    intro k a b out hd ho hk
    obtain ⟨k, rfl⟩ : ∃ m, k = m + 2 := ⟨k - 2, by omega⟩
    match a, b with
    | [], [] => simp at hd
    | [], y :: b =>
      have hb : b.length = d := by simpa using hd
      simp only [impl_MergeSorted.l0, impl_MergeSorted.j1]
      rw [if_neg (by simp), decide_eq_true (by simp only [List.length_cons]; omega), if_pos rfl, if_neg (by simp only [List.length_cons]; omega), if_neg (by simp), if_pos (by simp only [List.length_cons]; omega), if_pos (by omega), if_pos (by simp only [List.length_cons]; omega)]
      rw [show List.drop 1 (y :: b) = b from rfl, ih k [] b _ (by simpa using hb) (by simp only [List.length_append, List.length_singleton]; omega) (by omega), mrg_nil_left, mrg_nil_left]
      rw [snoc_cons]
      rfl
    | x :: a, [] =>
      have ha : a.length = d := by simpa using hd
      simp only [impl_MergeSorted.l0, impl_MergeSorted.j1]
      rw [if_pos (by simp only [List.length_cons]; omega), if_true, if_pos (by simp), if_pos (by simp only [List.length_cons]; omega), if_pos (by omega), if_pos (by simp only [List.length_cons]; omega)]
      rw [show List.drop 1 (x :: a) = a from rfl, ih k a [] _ (by simpa using ha) (by simp only [List.length_append, List.length_singleton]; omega) (by omega), mrg_nil_right, mrg_nil_right]
      rw [snoc_cons]
      rfl
    | x :: a, y :: b =>
      have hl : a.length + b.length + 1 = d := by simp only [List.length_cons] at hd; omega
      simp only [impl_MergeSorted.l0, impl_MergeSorted.j1]
      rw [if_pos (by simp only [List.length_cons]; omega), if_true, if_neg (by simp only [List.length_cons]; omega), if_pos (by simp only [List.length_cons]; omega), if_pos (by simp only [List.length_cons]; omega), if_pos (by simp only [List.length_cons]; omega), cmp_impl]
      simp only [Option.bind_some]
      show (if cmpR x y ≤ 0 then _ else _) = _
      by_cases hc : cmpR x y ≤ 0
      · rw [if_pos hc, if_pos (by omega), if_pos (by simp only [List.length_cons]; omega), show List.drop 1 (x :: a) = a from rfl, ih k a (y :: b) _ (by simp only [List.length_cons]; omega) (by simp only [List.length_append, List.length_singleton]; omega) (by omega), mrg_left x y a b hc, snoc_cons]
        rfl
      · rw [if_neg hc, if_pos (by omega), if_pos (by simp only [List.length_cons]; omega), show List.drop 1 (y :: b) = b from rfl, ih k (x :: a) b _ (by simp only [List.length_cons]; omega) (by simp only [List.length_append, List.length_singleton]; omega) (by omega), mrg_right x y a b hc, snoc_cons]
        rfl
theorem mrg_impl (a b : List S75) (hl : a.length + b.length ≤ 1000000000000) (k : Nat) (hk : 2 * (a.length + b.length) + 4 < k) : impl_MergeSorted.f k a b = some (mrg a b) := by
  unfold impl_MergeSorted.f
  rw [mrg_impl_go (a.length + b.length) k a b [] rfl (by simpa using hl) hk]
  rfl
theorem mrg_spec_go (a b : List S75) (ha : a.length ≤ 1000000000000) (hb : b.length ≤ 1000000000000) (d : Nat) : ∀ (k : Nat) (out : List S75) (i j : Int), 0 ≤ i → i ≤ a.length → 0 ≤ j → j ≤ b.length →
    ((a.length : Int) - i) + ((b.length : Int) - j) = d → out.length + d ≤ 1000000000000 → 2 * d + 8 < k → spec_MergeSorted.l0 k a b out i j = some (out ++ mrg (a.drop i.toNat) (b.drop j.toNat)) := by
  induction d with
  | zero =>
    intro k out i j hi0 hi1 hj0 hj1 hd ho hk
    obtain ⟨k, rfl⟩ : ∃ m, k = m + 2 := ⟨k - 2, by omega⟩
    simp only [spec_MergeSorted.l0, spec_MergeSorted.j1]
    rw [if_neg (by omega), decide_eq_false (by omega), if_neg (by decide), drop_end a i (by omega), drop_end b j (by omega), mrg_nil_left]
    simp
  | succ d ih =>
    intro k out i j hi0 hi1 hj0 hj1 hd ho hk
    obtain ⟨k, rfl⟩ : ∃ m, k = m + 2 := ⟨k - 2, by omega⟩
    simp only [spec_MergeSorted.l0, spec_MergeSorted.j1]
    by_cases hi : i < (a.length : Int)
    · rw [if_pos hi, if_true, wrap_succ hi0 hi (by omega)]
      have da := drop_getD a z75 i hi0 hi
      by_cases hj : j = (b.length : Int)
      · rw [if_pos hj, if_pos hi0, if_pos hi, if_pos (by omega), ih k _ (i + 1) j (by omega) (by omega) (by omega) (by omega) (by omega) (by simp only [List.length_append, List.length_singleton]; omega) (by omega), da, drop_end b j (by omega), mrg_nil_right, mrg_nil_right, snoc_cons]
        rfl
      · have db := drop_getD b z75 j hj0 (by omega)
        rw [if_neg hj, if_pos hi, if_pos hi0, if_pos hj0, if_pos (show j < (b.length : Int) by omega), cmp_spec _ _ k (by omega), wrap_succ hj0 (n := b.length) (by omega) (by omega)]
        simp only [Option.bind_some]
        by_cases hc : cmpR (rd_T75 a i) (rd_T75 b j) ≤ 0
        · rw [if_pos hc, if_pos (by omega), ih k _ (i + 1) j (by omega) (by omega) (by omega) (by omega) (by omega) (by simp only [List.length_append, List.length_singleton]; omega) (by omega), da, db, mrg_left _ _ _ _ (show cmpR (a.getD i.toNat z75) (b.getD j.toNat z75) ≤ 0 from hc), snoc_cons]
          rfl
        · rw [if_neg hc, if_pos (by omega), ih k _ i (j + 1) (by omega) (by omega) (by omega) (by omega) (by omega) (by simp only [List.length_append, List.length_singleton]; omega) (by omega), da, db, mrg_right _ _ _ _ (show ¬ cmpR (a.getD i.toNat z75) (b.getD j.toNat z75) ≤ 0 from hc), snoc_cons]
          rfl
    · have hj : j < (b.length : Int) := by omega
      have db := drop_getD b z75 j hj0 hj
      rw [if_neg hi, decide_eq_true hj, if_pos rfl, if_neg (by omega), if_neg hi, if_pos hj0, if_pos hj, if_pos (by omega), wrap_succ hj0 hj (by omega), ih k _ i (j + 1) (by omega) (by omega) (by omega) (by omega) (by omega) (by simp only [List.length_append, List.length_singleton]; omega) (by omega), db, drop_end a i (by omega), mrg_nil_left, mrg_nil_left, snoc_cons]
      rfl
theorem mrg_spec (a b : List S75) (hl : a.length + b.length ≤ 1000000000000) (k : Nat) (hk : 2 * (a.length + b.length) + 8 < k) : spec_MergeSorted.f k a b = some (mrg a b) := by
  unfold spec_MergeSorted.f
  rw [mrg_spec_go a b (by omega) (by omega) (a.length + b.length) k [] 0 0 (by omega) (by omega) (by omega) (by omega) (by omega) (by simpa using hl) hk]
  rfl
end Go.Proofs.Ytngeppmincgebaa.Pure
