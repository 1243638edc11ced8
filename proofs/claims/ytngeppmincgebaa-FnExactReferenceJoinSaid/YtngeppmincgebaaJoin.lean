/- Plain lemmas: the four reference joins, by the program and by the reference. -/
import Derived.Test.YtngeppmincgebaaPx0
import Derived.Test.YtngeppmincgebaaPx32
import Derived.Test.YtngeppmincgebaaPx33
import Derived.Test.YtngeppmincgebaaPx34
import Derived.Test.YtngeppmincgebaaPx35
import Derived.Test.YtngeppmincgebaaRow
namespace Go.Proofs.Ytngeppmincgebaa.Pure
open Go.RowKit Go.Proofs.Ytngeppmincgebaa.P Go.Proofs.YtngeppmincgebaaW.PrintWords Go.Proofs.YtngeppmincgebaaW.PrintLast

/-- The rows whose key is a. -/
def hit (a : Int) (r : List S75) : List S75 := r.filter (fun y => decide (y.f0 = a))
theorem hit_le (a : Int) (r : List S75) : (hit a r).length ≤ r.length := List.length_filter_le _ _
theorem hit_nil (a : Int) : hit a [] = [] := rfl
theorem hit_yes (a : Int) (y : S75) (r : List S75) (h : y.f0 = a) : hit a (y :: r) = y :: hit a r := List.filter_cons_of_pos (decide_eq_true h)
theorem hit_no (a : Int) (y : S75) (r : List S75) (h : ¬ y.f0 = a) : hit a (y :: r) = hit a r := List.filter_cons_of_neg (by simp [h])
def lone (x : S75) : S98 := ⟨⟨x.f0, x.f1, x.f2⟩, ⟨0, 0, 0⟩, false⟩
def both (x y : S75) : S98 := ⟨⟨x.f0, x.f1, x.f2⟩, ⟨y.f0, y.f1, y.f2⟩, true⟩
def jn1 (kind : Int) (x : S75) (r : List S75) : List S98 :=
  if kind = 2 then (if 0 < (hit x.f0 r).length then [lone x] else [])
  else if kind = 3 then (if (hit x.f0 r).length = 0 then [lone x] else [])
  else (hit x.f0 r).map (both x) ++ (if (hit x.f0 r).length = 0 then (if kind = 4 then [lone x] else []) else [])
def jn (kind : Int) (l r : List S75) : List S98 := if 1 ≤ kind ∧ kind ≤ 4 then l.flatMap (jn1 kind · r) else []
theorem jn1_le (kind : Int) (x : S75) (r : List S75) : (jn1 kind x r).length ≤ r.length + 1 := by
  have := hit_le x.f0 r
  unfold jn1
  repeat' split
  all_goals simp only [List.length_singleton, List.length_nil, List.length_append, List.length_map]
  all_goals omega
theorem jn_flat_le (kind : Int) (r : List S75) (l : List S75) : (l.flatMap (jn1 kind · r)).length ≤ l.length * (r.length + 1) := by
  induction l with
  | nil => simp
  | cons x l ih =>
    have := jn1_le kind x r
    rw [List.flatMap_cons, List.length_append, List.length_cons, Nat.succ_mul]
    omega
theorem jn_le (kind : Int) (l r : List S75) : (jn kind l r).length ≤ l.length * (r.length + 1) := by
  unfold jn
  split
  · exact jn_flat_le kind r l
  · simp
theorem cnt_spec_go (r : List S75) (hr : r.length ≤ 1000000000000) (a b c : Int) (d : Nat) : ∀ (k : Nat) (acc i : Int), 0 ≤ i → i ≤ r.length → 0 ≤ acc → acc ≤ i → (r.length : Int) - i = d → d < k → spec_CountMatches.l0 k r acc i a b c = some (acc + (hit a (r.drop i.toNat)).length) := by
  induction d with
  | zero =>
    intro k acc i h0 h1 ha ha2 hd hk
    obtain ⟨k, rfl⟩ : ∃ m, k = m + 1 := ⟨k - 1, by omega⟩
    simp only [spec_CountMatches.l0]
    rw [if_neg (by omega), drop_end r i (by omega), hit_nil]
    simp
  | succ d ih =>
    intro k acc i h0 h1 ha ha2 hd hk
    obtain ⟨k, rfl⟩ : ∃ m, k = m + 1 := ⟨k - 1, by omega⟩
    have hD : r.drop i.toNat = rd_T75 r i :: r.drop (i + 1).toNat := drop_getD r z75 i h0 (by omega)
    simp only [spec_CountMatches.l0]
    rw [if_pos (by omega), if_pos h0, wrap_succ h0 (n := r.length) (by omega) (by omega), hD]
    by_cases h : (rd_T75 r i).f0 = a
    · rw [if_pos h, wrap_id (by omega) (by omega), ih k _ (i + 1) (by omega) (by omega) (by omega) (by omega) (by omega) (by omega), hit_yes _ _ _ h, List.length_cons]
      congr 1
      omega
    · rw [if_neg h, ih k _ (i + 1) (by omega) (by omega) (by omega) (by omega) (by omega) (by omega), hit_no _ _ _ h]
theorem cnt_spec (r : List S75) (hr : r.length ≤ 1000000000000) (a b c : Int) (k : Nat) (hk : r.length < k) : spec_CountMatches.f k a b c r = some ((hit a r).length : Int) := by
  unfold spec_CountMatches.f
  rw [cnt_spec_go r hr a b c r.length k 0 0 (by omega) (by omega) (by omega) (by omega) (by omega) hk]
  simp
theorem cnt_impl_go (r : List S75) (hr : r.length ≤ 1000000000000) (a b c : Int) (d : Nat) : ∀ (k : Nat) (acc i : Int), 0 ≤ i → i ≤ r.length → 0 ≤ acc → acc ≤ i → (r.length : Int) - i = d → d < k → impl_CountMatches.l0 k acc r (r.length : Int) i a b c = some (acc + (hit a (r.drop i.toNat)).length) := by
  induction d with
  | zero =>
    intro k acc i h0 h1 ha ha2 hd hk
    obtain ⟨k, rfl⟩ : ∃ m, k = m + 1 := ⟨k - 1, by omega⟩
    simp only [impl_CountMatches.l0]
    rw [if_neg (by omega), drop_end r i (by omega), hit_nil]
    simp
  | succ d ih =>
    intro k acc i h0 h1 ha ha2 hd hk
    obtain ⟨k, rfl⟩ : ∃ m, k = m + 1 := ⟨k - 1, by omega⟩
    have hD : r.drop i.toNat = rd_T75 r i :: r.drop (i + 1).toNat := drop_getD r z75 i h0 (by omega)
    simp only [impl_CountMatches.l0]
    rw [if_pos (by omega), if_pos h0, if_pos (by omega), wrap_succ h0 (n := r.length) (by omega) (by omega), hD]
    by_cases h : (rd_T75 r i).f0 = a
    · rw [if_pos h, wrap_id (by omega) (by omega), ih k _ (i + 1) (by omega) (by omega) (by omega) (by omega) (by omega) (by omega), hit_yes _ _ _ h, List.length_cons]
      congr 1
      omega
    · rw [if_neg h, ih k _ (i + 1) (by omega) (by omega) (by omega) (by omega) (by omega) (by omega), hit_no _ _ _ h]
theorem cnt_impl (r : List S75) (hr : r.length ≤ 1000000000000) (a b c : Int) (k : Nat) (hk : r.length < k) : impl_CountMatches.f k a b c r = some ((hit a r).length : Int) := by
  unfold impl_CountMatches.f
  rw [cnt_impl_go r hr a b c r.length k 0 0 (by omega) (by omega) (by omega) (by omega) (by omega) hk]
  simp
theorem one_spec_go (kind n : Int) (x : S75) (r : List S75) (hr : r.length ≤ 1000000000000) (d : Nat) : ∀ (k : Nat) (out : List S98) (i : Int), 0 ≤ i → i ≤ r.length → out.length + d ≤ 2513169434915 → (r.length : Int) - i = d → d < k →
    spec_l7One.l0 k kind r out n i x.f0 x.f1 x.f2 = some (out ++ (hit x.f0 (r.drop i.toNat)).map (both x) ++ (if n = 0 then (if kind = 4 then [lone x] else []) else [])) := by
  induction d with
  | zero =>
    intro k out i h0 h1 ho hd hk
    obtain ⟨k, rfl⟩ : ∃ m, k = m + 1 := ⟨k - 1, by omega⟩
    simp only [spec_l7One.l0]
    rw [if_neg (by omega), drop_end r i (by omega), hit_nil, if_pos (show out.length < 2513169434916 by omega)]
    simp only [List.map_nil, List.append_nil]
    repeat' split
    all_goals first | rfl | rw [List.append_nil]
  | succ d ih =>
    intro k out i h0 h1 ho hd hk
    obtain ⟨k, rfl⟩ : ∃ m, k = m + 1 := ⟨k - 1, by omega⟩
    have hD : r.drop i.toNat = rd_T75 r i :: r.drop (i + 1).toNat := drop_getD r z75 i h0 (by omega)
    simp only [spec_l7One.l0]
    rw [if_pos (by omega), if_pos h0, wrap_succ h0 (n := r.length) (by omega) (by omega), hD]
    by_cases h : (rd_T75 r i).f0 = x.f0
    · rw [if_pos h, if_pos (by omega), ih k _ (i + 1) (by omega) (by omega) (by rw [List.length_append, List.length_singleton]; omega) (by omega) (by omega), hit_yes _ _ _ h, List.map_cons]
      simp only [List.append_assoc, List.cons_append, List.nil_append]
      rfl
    · rw [if_neg h, ih k _ (i + 1) (by omega) (by omega) (by omega) (by omega) (by omega), hit_no _ _ _ h]
theorem one_spec (kind : Int) (x : S75) (r : List S75) (hr : r.length ≤ 1000000000000) (k : Nat) (hk : r.length < k) : spec_l7One.f k kind x.f0 x.f1 x.f2 r = some (jn1 kind x r) := by
  unfold spec_l7One.f jn1
  simp only [Option.bind_some]
  rw [cnt_spec r hr x.f0 x.f1 x.f2 k hk]
  simp only [Option.bind_some]
  by_cases h2 : kind = 2
  · rw [if_pos h2, if_pos h2]
    by_cases hc : 0 < (hit x.f0 r).length
    · rw [if_pos hc, if_pos (by omega), if_pos (by simp)]
      rfl
    · rw [if_neg hc, if_neg (by omega)]
  · rw [if_neg h2, if_neg h2]
    by_cases h3 : kind = 3
    · rw [if_pos h3, if_pos h3]
      by_cases hc : (hit x.f0 r).length = 0
      · rw [if_pos hc, if_pos (by omega), if_pos (by simp)]
        rfl
      · rw [if_neg hc, if_neg (by omega)]
    · rw [if_neg h3, if_neg h3, one_spec_go kind _ x r hr r.length k [] 0 (by omega) (by omega) (by simp only [List.length_nil]; omega) (by omega) hk]
      by_cases hc : (hit x.f0 r).length = 0
      · rw [if_pos hc, if_pos (by omega)]
        rfl
      · rw [if_neg hc, if_neg (by omega)]
        rfl
theorem validKind (kind : Int) : spec_IsValidJoinKind.f kind = some (decide (1 ≤ kind ∧ kind ≤ 4)) := by
  unfold spec_IsValidJoinKind.f
  rw [l1In_in]
  rfl
theorem jn_spec_go (kind : Int) (hv : 1 ≤ kind ∧ kind ≤ 4) (l r : List S75) (hl : l.length ≤ 1000000000000) (hr : r.length ≤ 1000000000000) (W : Nat) (hW : r.length + 1 ≤ W) (d : Nat) : ∀ (k : Nat) (out : List S98) (i : Int), 0 ≤ i → i ≤ l.length → out.length + d * W ≤ 2513169434915 → (l.length : Int) - i = d → d + r.length < k →
    spec_ReferenceJoin.l0 k kind l r out i = some (out ++ (l.drop i.toNat).flatMap (jn1 kind · r)) := by
  induction d with
  | zero =>
    intro k out i h0 h1 ho hd hk
    obtain ⟨k, rfl⟩ : ∃ m, k = m + 1 := ⟨k - 1, by omega⟩
    simp only [spec_ReferenceJoin.l0]
    rw [if_neg (by omega), drop_end l i (by omega)]
    simp
  | succ d ih =>
    intro k out i h0 h1 ho hd hk
    obtain ⟨k, rfl⟩ : ∃ m, k = m + 1 := ⟨k - 1, by omega⟩
    have hD : l.drop i.toNat = rd_T75 l i :: l.drop (i + 1).toNat := drop_getD l z75 i h0 (by omega)
    have hj := jn1_le kind (rd_T75 l i) r
    have hs : (d + 1) * W = d * W + W := Nat.succ_mul d W
    simp only [spec_ReferenceJoin.l0]
    rw [if_pos (by omega), validKind, decide_eq_true hv]
    simp only [Option.bind_some, if_true]
    rw [if_pos h0, one_spec kind (rd_T75 l i) r hr k (by omega)]
    simp only [Option.bind_some]
    rw [if_pos (by omega), wrap_succ h0 (n := l.length) (by omega) (by omega), ih k _ (i + 1) (by omega) (by omega) (by rw [List.length_append]; omega) (by omega) (by omega), hD, List.flatMap_cons, List.append_assoc]
theorem jn_spec (kind : Int) (l r : List S75) (hl : l.length ≤ 1000000000000) (hr : r.length ≤ 1000000000000) (hb : l.length * (r.length + 1) ≤ 2513169434915) (k : Nat) (hk : l.length + r.length < k) : spec_ReferenceJoin.f k kind l r = some (jn kind l r) := by
  unfold spec_ReferenceJoin.f jn
  by_cases hv : 1 ≤ kind ∧ kind ≤ 4
  · rw [if_pos hv, jn_spec_go kind hv l r hl hr (r.length + 1) (by omega) l.length k [] 0 (by omega) (by omega) (by simp only [List.length_nil]; omega) (by omega) hk]
    rfl
  · rw [if_neg hv]
    obtain ⟨k, rfl⟩ : ∃ m, k = m + 1 := ⟨k - 1, by omega⟩
    simp only [spec_ReferenceJoin.l0]
    rw [validKind, decide_eq_false hv]
    simp
theorem l1_impl_go (kind n m : Int) (h1 : kind = 1 ∨ kind = 4) (hn : 0 < n) (x : S75) (l r : List S75) (i : Int) (hr : r.length ≤ 1000000000000) (k d : Nat) : ∀ (out : List S98) (j : Int), 0 ≤ j → j ≤ r.length → out.length + d ≤ 2513169434915 → (r.length : Int) - j = d →
    impl_ReferenceJoin.l1 (k + d + 1) kind r out n l m i r (r.length : Int) j x.f0 x.f1 x.f2 = impl_ReferenceJoin.l0 k kind r (out ++ (hit x.f0 (r.drop j.toNat)).map (both x)) l m (wrap64 (i + 1)) := by
  induction d with
  | zero =>
    intro out j h0 h2 ho hd
    simp only [impl_ReferenceJoin.l1]
    rw [if_neg (by omega), if_neg (by omega), if_neg (by omega), drop_end r j (by omega), hit_nil, if_neg (show ¬ n = 0 by omega)]
    simp only [List.map_nil, List.append_nil]
    split <;> rfl
  | succ d ih =>
    intro out j h0 h2 ho hd
    have hD : r.drop j.toNat = rd_T75 r j :: r.drop (j + 1).toNat := drop_getD r z75 j h0 (by omega)
    rw [show k + (d + 1) + 1 = (k + d + 1) + 1 by omega]
    rw [impl_ReferenceJoin.l1]
    rw [if_pos (by omega), if_pos h0, if_pos (by omega), wrap_succ h0 (n := r.length) (by omega) (by omega), hD]
    by_cases h : (rd_T75 r j).f0 = x.f0
    · rw [if_pos h, if_pos (by omega), ih _ (j + 1) (by omega) (by omega) (by rw [List.length_append, List.length_singleton]; omega) (by omega), hit_yes _ _ _ h, List.map_cons, List.append_assoc]
      rfl
    · rw [if_neg h, ih _ (j + 1) (by omega) (by omega) (by omega) (by omega), hit_no _ _ _ h]
def jv (kind : Int) (x : S75) (r : List S75) : List S98 := if 1 ≤ kind ∧ kind ≤ 4 then jn1 kind x r else []
theorem j1_impl (kind : Int) (x : S75) (l r : List S75) (m i : Int) (hr : r.length ≤ 1000000000000) (out : List S98) (ho : out.length + r.length + 1 ≤ 2513169434915) (k : Nat) (b : Bool) (hb : b = decide (0 < (hit x.f0 r).length ∧ (kind = 1 ∨ kind = 4))) :
    ∃ k', k ≤ k' ∧ k' ≤ k + r.length + 1 ∧ impl_ReferenceJoin.j1 (k + r.length + 2) kind r out ((hit x.f0 r).length : Int) l m i b x.f0 x.f1 x.f2 = impl_ReferenceJoin.l0 k' kind r (out ++ jv kind x r) l m (wrap64 (i + 1)) := by
  rw [show k + r.length + 2 = (k + r.length + 1) + 1 by omega]
  by_cases hy : 0 < (hit x.f0 r).length ∧ (kind = 1 ∨ kind = 4)
  · refine ⟨k, by omega, by omega, ?_⟩
    rw [decide_eq_true hy] at hb
    subst hb
    rw [impl_ReferenceJoin.j1, if_pos rfl, l1_impl_go kind _ m hy.2 (by omega) x l r i hr k r.length out 0 (by omega) (by omega) (by omega) (by omega)]
    unfold jv jn1
    rw [if_pos (by omega), if_neg (by omega), if_neg (by omega), if_neg (show ¬ (hit x.f0 r).length = 0 by omega), List.append_nil]
    rfl
  · refine ⟨k + r.length + 1, by omega, by omega, ?_⟩
    rw [decide_eq_false hy] at hb
    subst hb
    rw [impl_ReferenceJoin.j1, if_neg Bool.false_ne_true]
    have hL : out.length < 2513169434916 := by omega
    by_cases h2 : kind = 2
    · have hv : jv kind x r = if 0 < (hit x.f0 r).length then [lone x] else [] := by
        unfold jv jn1
        rw [if_pos (show 1 ≤ kind ∧ kind ≤ 4 by omega), if_pos h2]
      rw [if_pos h2, hv, if_pos hL]
      by_cases hc : 0 < (hit x.f0 r).length
      · rw [if_pos hc, if_pos (show ((hit x.f0 r).length : Int) > 0 by omega)]
        rfl
      · rw [if_neg hc, if_neg (show ¬ ((hit x.f0 r).length : Int) > 0 by omega), if_neg (show ¬ kind = 3 by omega), if_neg (show ¬ kind = 4 by omega), List.append_nil]
    · rw [if_neg h2]
      by_cases h3 : kind = 3
      · have hv : jv kind x r = if (hit x.f0 r).length = 0 then [lone x] else [] := by
          unfold jv jn1
          rw [if_pos (show 1 ≤ kind ∧ kind ≤ 4 by omega), if_neg h2, if_pos h3]
        rw [if_pos h3, hv, if_pos hL]
        by_cases hc : (hit x.f0 r).length = 0
        · rw [if_pos hc, if_pos (show ((hit x.f0 r).length : Int) = 0 by omega)]
          rfl
        · rw [if_neg hc, if_neg (show ¬ ((hit x.f0 r).length : Int) = 0 by omega), List.append_nil]
      · rw [if_neg h3]
        by_cases h4 : kind = 4
        · have hc : (hit x.f0 r).length = 0 := by
            rcases Nat.eq_zero_or_pos (hit x.f0 r).length with h | h
            · exact h
            · exact absurd ⟨h, Or.inr h4⟩ hy
          have hv : jv kind x r = [lone x] := by
            unfold jv jn1
            rw [if_pos (show 1 ≤ kind ∧ kind ≤ 4 by omega), if_neg h2, if_neg h3, if_pos hc, if_pos h4, List.eq_nil_of_length_eq_zero hc]
            rfl
          rw [if_pos h4, hv, if_pos hL, if_pos (show ((hit x.f0 r).length : Int) = 0 by omega)]
          rfl
        · have hv : jv kind x r = [] := by
            unfold jv jn1
            by_cases h1 : kind = 1
            · have hc : (hit x.f0 r).length = 0 := by
                rcases Nat.eq_zero_or_pos (hit x.f0 r).length with h | h
                · exact h
                · exact absurd ⟨h, Or.inl h1⟩ hy
              rw [if_pos (show 1 ≤ kind ∧ kind ≤ 4 by omega), if_neg h2, if_neg h3, if_pos hc, if_neg h4, List.eq_nil_of_length_eq_zero hc]
              rfl
            · rw [if_neg (show ¬ (1 ≤ kind ∧ kind ≤ 4) by omega)]
          rw [if_neg h4, hv, List.append_nil]
theorem jn_impl_go (kind : Int) (l r : List S75) (hl : l.length ≤ 1000000000000) (hr : r.length ≤ 1000000000000) (W : Nat) (hW : r.length + 3 ≤ W) (d : Nat) : ∀ (k : Nat) (out : List S98) (i : Int), 0 ≤ i → i ≤ l.length → out.length + d * (r.length + 1) ≤ 2513169434915 → (l.length : Int) - i = d → d * W + W < k →
    impl_ReferenceJoin.l0 k kind r out l (l.length : Int) i = some (out ++ (l.drop i.toNat).flatMap (jv kind · r)) := by
  induction d with
  | zero =>
    intro k out i h0 h1 ho hd hk
    obtain ⟨k, rfl⟩ : ∃ m, k = m + 1 := ⟨k - 1, by omega⟩
    simp only [impl_ReferenceJoin.l0]
    rw [if_neg (by omega), drop_end l i (by omega)]
    simp
  | succ d ih =>
    intro k out i h0 h1 ho hd hk
    have hs : (d + 1) * W = d * W + W := Nat.succ_mul d W
    have hs2 : (d + 1) * (r.length + 1) = d * (r.length + 1) + (r.length + 1) := Nat.succ_mul d _
    obtain ⟨k, rfl⟩ : ∃ m, k = m + r.length + 2 + 1 := ⟨k - r.length - 3, by omega⟩
    have hD : l.drop i.toNat = rd_T75 l i :: l.drop (i + 1).toNat := drop_getD l z75 i h0 (by omega)
    have hj : (jv kind (rd_T75 l i) r).length ≤ r.length + 1 := by
      unfold jv
      split
      · exact jn1_le kind _ r
      · simp
    rw [impl_ReferenceJoin.l0]
    rw [if_pos (by omega), if_pos h0, if_pos (by omega), cnt_impl r hr _ _ _ _ (by omega)]
    simp only [Option.bind_some]
    have key : ∀ b, b = decide (0 < (hit (rd_T75 l i).f0 r).length ∧ (kind = 1 ∨ kind = 4)) → impl_ReferenceJoin.j1 (k + r.length + 2) kind r out ((hit (rd_T75 l i).f0 r).length : Int) l (l.length : Int) i b (rd_T75 l i).f0 (rd_T75 l i).f1 (rd_T75 l i).f2 = some (out ++ (l.drop i.toNat).flatMap (jv kind · r)) := by
      intro b hb
      obtain ⟨k', hk1, hk2, he⟩ := j1_impl kind (rd_T75 l i) l r (l.length : Int) i hr out (by omega) k b hb
      rw [he, wrap_succ h0 (n := l.length) (by omega) (by omega), ih k' _ (i + 1) (by omega) (by omega) (by rw [List.length_append]; omega) (by omega) (by omega), hD, List.flatMap_cons, List.append_assoc]
    by_cases hc : 0 < (hit (rd_T75 l i).f0 r).length
    · rw [if_pos (by omega)]
      by_cases hk1 : kind = 1
      · rw [if_pos hk1]
        exact key _ (by simp [hc, hk1])
      · rw [if_neg hk1]
        exact key _ (by simp only [hc, hk1, true_and, false_or]; by_cases h4 : kind = 4 <;> simp [h4])
    · rw [if_neg (by omega)]
      exact key _ (by simp [hc])
theorem jn_impl (kind : Int) (l r : List S75) (hl : l.length ≤ 1000000000000) (hr : r.length ≤ 1000000000000) (hb : l.length * (r.length + 1) ≤ 2513169434915) (k : Nat) (hk : l.length * (r.length + 3) + (r.length + 3) < k) : impl_ReferenceJoin.f k kind l r = some (jn kind l r) := by
  unfold impl_ReferenceJoin.f
  rw [jn_impl_go kind l r hl hr (r.length + 3) (by omega) l.length k [] 0 (by omega) (by omega) (by simp only [List.length_nil]; omega) (by omega) hk]
  simp only [List.nil_append, Int.toNat_zero, List.drop_zero]
  unfold jn jv
  by_cases hv : 1 ≤ kind ∧ kind ≤ 4
  · simp only [hv, and_self, if_true]
  · simp only [hv, if_false]
    congr 1
    induction l with
    | nil => rfl
    | cons x l ih => simp
end Go.Proofs.Ytngeppmincgebaa.Pure
