/- Plain lemmas: sorted rows, valid rows, by the program and by the reference. -/
import Derived.Test.YtngeppmincgebaaPx0
import Derived.Test.YtngeppmincgebaaPx27
import Derived.Test.YtngeppmincgebaaPx28
import Derived.Test.YtngeppmincgebaaPx29
import Derived.Test.YtngeppmincgebaaPx30
import Derived.Test.YtngeppmincgebaaRow
import Derived.Test.YtngeppmincgebaaCmp
namespace Go.Proofs.Ytngeppmincgebaa.Pure
open Go.RowKit Go.Proofs.Ytngeppmincgebaa.P Go.Proofs.YtngeppmincgebaaW.PrintWords Go.Proofs.YtngeppmincgebaaW.PrintLast

def srtd : List S75 → Bool
  | [] => true
  | [_] => true
  | x :: y :: l => decide (cmpR x y ≤ 0) && srtd (y :: l)
theorem srt_spec_go (l : List S75) (hl : l.length ≤ 9223372036854775807) (d : Nat) : ∀ (k : Nat) (i : Int), 1 ≤ i → i ≤ l.length → (l.length : Int) - i = d → d + 4 < k → spec_IsSorted.l0 k l i = some (srtd (l.drop (i - 1).toNat)) := by
  induction d with
  | zero =>
    intro k i h0 h1 hd hk
    obtain ⟨k, rfl⟩ : ∃ m, k = m + 1 := ⟨k - 1, by omega⟩
    simp only [spec_IsSorted.l0]
    rw [if_neg (by omega), drop_getD l z75 (i - 1) (by omega) (by omega), drop_end l (i - 1 + 1) (by omega)]
    rfl
  | succ d ih =>
    intro k i h0 h1 hd hk
    obtain ⟨k, rfl⟩ : ∃ m, k = m + 1 := ⟨k - 1, by omega⟩
    simp only [spec_IsSorted.l0]
    rw [wrap_id (x := i - 1) (by omega) (by omega), wrap_succ (by omega) (n := l.length) (by omega) (by omega), if_pos (by omega), if_pos (by omega), if_pos (by omega), if_pos (by omega), cmp_spec _ _ k (by omega)]
    simp only [Option.bind_some]
    have ih := ih k (i + 1) (by omega) (by omega) (by omega) (by omega)
    rw [ih, show i + 1 - 1 = i by omega, drop_getD l z75 (i - 1) (by omega) (by omega), show i - 1 + 1 = i by omega, drop_getD l z75 i (by omega) (by omega)]
    simp only [srtd]
    by_cases hc : cmpR (rd_T75 l (i - 1)) (rd_T75 l i) > 0
    · rw [if_pos hc]
      have : decide (cmpR (l.getD (i - 1).toNat z75) (l.getD i.toNat z75) ≤ 0) = false := decide_eq_false (by show ¬ (cmpR (rd_T75 l (i - 1)) (rd_T75 l i) ≤ 0); omega)
      rw [this]
      rfl
    · rw [if_neg hc]
      have : decide (cmpR (l.getD (i - 1).toNat z75) (l.getD i.toNat z75) ≤ 0) = true := decide_eq_true (by show (cmpR (rd_T75 l (i - 1)) (rd_T75 l i) ≤ 0); omega)
      rw [this]
      rfl
theorem srt_impl_go (l : List S75) (hl : l.length ≤ 9223372036854775807) (d : Nat) : ∀ (k : Nat) (i : Int), 1 ≤ i → i ≤ l.length → (l.length : Int) - i = d → d < k → impl_IsSorted.l0 k l i = some (srtd (l.drop (i - 1).toNat)) := by
  induction d with
  | zero =>
    intro k i h0 h1 hd hk
    obtain ⟨k, rfl⟩ : ∃ m, k = m + 1 := ⟨k - 1, by omega⟩
    simp only [impl_IsSorted.l0]
    rw [if_neg (by omega), drop_getD l z75 (i - 1) (by omega) (by omega), drop_end l (i - 1 + 1) (by omega)]
    rfl
  | succ d ih =>
    intro k i h0 h1 hd hk
    obtain ⟨k, rfl⟩ : ∃ m, k = m + 1 := ⟨k - 1, by omega⟩
    simp only [impl_IsSorted.l0]
    rw [wrap_id (x := i - 1) (by omega) (by omega), wrap_succ (by omega) (n := l.length) (by omega) (by omega), if_pos (by omega), if_pos (by omega), if_pos (by omega), if_pos (by omega), cmp_impl]
    simp only [Option.bind_some]
    have ih := ih k (i + 1) (by omega) (by omega) (by omega) (by omega)
    rw [ih, show i + 1 - 1 = i by omega, drop_getD l z75 (i - 1) (by omega) (by omega), show i - 1 + 1 = i by omega, drop_getD l z75 i (by omega) (by omega), cmpR_anti]
    simp only [srtd]
    by_cases hc : cmpR (rd_T75 l (i - 1)) (rd_T75 l i) > 0
    · rw [if_pos (by omega)]
      have : decide (cmpR (l.getD (i - 1).toNat z75) (l.getD i.toNat z75) ≤ 0) = false := decide_eq_false (by show ¬ (cmpR (rd_T75 l (i - 1)) (rd_T75 l i) ≤ 0); omega)
      rw [this]
      rfl
    · rw [if_neg (by omega)]
      have : decide (cmpR (l.getD (i - 1).toNat z75) (l.getD i.toNat z75) ≤ 0) = true := decide_eq_true (by show (cmpR (rd_T75 l (i - 1)) (rd_T75 l i) ≤ 0); omega)
      rw [this]
      rfl
theorem srt_spec (l : List S75) (hl : l.length ≤ 9223372036854775807) (k : Nat) (hk : l.length + 4 < k) : spec_IsSorted.f k l = some (srtd l) := by
  unfold spec_IsSorted.f
  by_cases h0 : l.length = 0
  · obtain ⟨k, rfl⟩ : ∃ m, k = m + 1 := ⟨k - 1, by omega⟩
    simp only [spec_IsSorted.l0]
    rw [if_neg (by omega), List.eq_nil_of_length_eq_zero h0]
    rfl
  · exact srt_spec_go l hl (l.length - 1) k 1 (by omega) (by omega) (by omega) (by omega)
theorem srt_impl (l : List S75) (hl : l.length ≤ 9223372036854775807) (k : Nat) (hk : l.length + 4 < k) : impl_IsSorted.f k l = some (srtd l) := by
  unfold impl_IsSorted.f
  by_cases h0 : l.length = 0
  · obtain ⟨k, rfl⟩ : ∃ m, k = m + 1 := ⟨k - 1, by omega⟩
    simp only [impl_IsSorted.l0]
    rw [if_neg (by omega), List.eq_nil_of_length_eq_zero h0]
    rfl
  · exact srt_impl_go l hl (l.length - 1) k 1 (by omega) (by omega) (by omega) (by omega)
/-- Valid rows, at most 24. -/
def vRows (l : List S75) : Bool := l.all vRow && decide (l.length ≤ 24)
theorem vRows_spec_go (l : List S75) (hl : l.length ≤ 9223372036854775807) (d : Nat) : ∀ (k : Nat) (i : Int), 0 ≤ i → i ≤ l.length → (l.length : Int) - i = d → d < k → spec_AreValidRows.l0 k l i = some ((l.drop i.toNat).all vRow && decide (l.length ≤ 24)) := by
  induction d with
  | zero =>
    intro k i h0 h1 hd hk
    obtain ⟨k, rfl⟩ : ∃ m, k = m + 1 := ⟨k - 1, by omega⟩
    simp only [spec_AreValidRows.l0]
    rw [if_neg (by omega), drop_end l i (by omega)]
    simp only [List.all_nil, Bool.true_and]
    congr 1
    exact decide_eq_decide.2 (by omega)
  | succ d ih =>
    intro k i h0 h1 hd hk
    obtain ⟨k, rfl⟩ : ∃ m, k = m + 1 := ⟨k - 1, by omega⟩
    simp only [spec_AreValidRows.l0]
    rw [if_pos (by omega), if_pos h0, vRow_spec, wrap_succ h0 (n := l.length) (by omega) (by omega)]
    simp only [Option.bind_some]
    rw [ih k (i + 1) (by omega) (by omega) (by omega) (by omega), drop_getD l z75 i h0 (by omega)]
    simp only [List.all_cons]
    show (if vRow (rd_T75 l i) = true then _ else _) = some ((vRow (rd_T75 l i) && _) && _)
    cases vRow (rd_T75 l i) <;> simp
theorem vRows_spec (l : List S75) (hl : l.length ≤ 9223372036854775807) (k : Nat) (hk : l.length < k) : spec_AreValidRows.f k l = some (vRows l) := by
  unfold spec_AreValidRows.f
  exact vRows_spec_go l hl l.length k 0 (by omega) (by omega) (by omega) hk
theorem allV_impl_go (l : List S75) (hl : l.length ≤ 9223372036854775807) (d : Nat) : ∀ (k : Nat) (i : Int), 0 ≤ i → i ≤ l.length → (l.length : Int) - i = d → d < k → impl_allValid.l0 k l (l.length : Int) i = some ((l.drop i.toNat).all vRow) := by
  induction d with
  | zero =>
    intro k i h0 h1 hd hk
    obtain ⟨k, rfl⟩ : ∃ m, k = m + 1 := ⟨k - 1, by omega⟩
    simp only [impl_allValid.l0]
    rw [if_neg (by omega), drop_end l i (by omega)]
    rfl
  | succ d ih =>
    intro k i h0 h1 hd hk
    obtain ⟨k, rfl⟩ : ∃ m, k = m + 1 := ⟨k - 1, by omega⟩
    simp only [impl_allValid.l0]
    rw [if_pos (by omega), if_pos h0, if_pos (by omega), vRow_impl, wrap_succ h0 (n := l.length) (by omega) (by omega)]
    simp only [Option.bind_some]
    rw [ih k (i + 1) (by omega) (by omega) (by omega) (by omega), drop_getD l z75 i h0 (by omega)]
    simp only [List.all_cons]
    show (if vRow (rd_T75 l i) = true then _ else _) = some (vRow (rd_T75 l i) && _)
    cases vRow (rd_T75 l i) <;> simp
theorem vRows_impl (l : List S75) (hl : l.length ≤ 9223372036854775807) (k : Nat) (hk : l.length < k) : impl_AreValidRows.f k l = some (vRows l) := by
  unfold impl_AreValidRows.f impl_allValid.f vRows
  rw [allV_impl_go l hl l.length k 0 (by omega) (by omega) (by omega) hk]
  simp only [Option.bind_some]
  by_cases h : l.length ≤ 24
  · rw [if_pos (by omega), decide_eq_true h]
    simp
  · rw [if_neg (by omega), decide_eq_false h]
    simp
end Go.Proofs.Ytngeppmincgebaa.Pure
