/- Plain lemmas: valid runs, by the program and by the reference. -/
import Derived.Test.YtngeppmincgebaaPx0
import Derived.Test.YtngeppmincgebaaPx28
import Derived.Test.YtngeppmincgebaaPx30
import Derived.Test.YtngeppmincgebaaSrt
namespace Go.Proofs.Ytngeppmincgebaa.Pure
open Go.RowKit Go.Proofs.Ytngeppmincgebaa.P Go.Proofs.YtngeppmincgebaaW.PrintWords Go.Proofs.YtngeppmincgebaaW.PrintLast

def vRun (x : S93) : Bool := !decide (x.f0.length = 0) && (srtd x.f0 && vRows x.f0)
theorem vRuns_spec_go (l : List S93) (B : Nat) (hB : B ≤ 9223372036854775807) (hl : l.length ≤ 9223372036854775807) (ho : ∀ x ∈ l, x.f0.length ≤ B) (d : Nat) : ∀ (k : Nat) (i : Int), 0 ≤ i → i ≤ l.length → (l.length : Int) - i = d → d + B + 5 < k → spec_AreValidRuns.l0 k l i = some ((l.drop i.toNat).all vRun) := by
  induction d with
  | zero =>
    intro k i h0 h1 hd hk
    obtain ⟨k, rfl⟩ : ∃ m, k = m + 1 := ⟨k - 1, by omega⟩
    simp only [spec_AreValidRuns.l0]
    rw [if_neg (by omega), drop_end l i (by omega)]
    rfl
  | succ d ih =>
    intro k i h0 h1 hd hk
    obtain ⟨k, rfl⟩ : ∃ m, k = m + 1 := ⟨k - 1, by omega⟩
    have hm : (rd_T93 l i).f0.length ≤ B := ho _ (getD_mem l z93 i h0 (by omega))
    have hD : l.drop i.toNat = rd_T93 l i :: l.drop (i + 1).toNat := drop_getD l z93 i h0 (by omega)
    have a1 := srt_spec (rd_T93 l i).f0 (by omega) k (by omega)
    have a2 := vRows_spec (rd_T93 l i).f0 (by omega) k (by omega)
    simp only [spec_AreValidRuns.l0]
    rw [if_pos (by omega), if_pos h0, wrap_succ h0 (n := l.length) (by omega) (by omega), ih k (i + 1) (by omega) (by omega) (by omega) (by omega), hD]
    generalize rd_T93 l i = x at *
    rw [a1, a2]
    simp only [Option.bind_some, List.all_cons, vRun]
    by_cases he : x.f0.length = 0
    · rw [if_pos (by omega), decide_eq_true he]
      rfl
    · rw [if_neg (by omega), decide_eq_false he]
      cases srtd x.f0 <;> cases vRows x.f0 <;> simp
theorem vRuns_spec (l : List S93) (B : Nat) (hB : B ≤ 9223372036854775807) (hl : l.length ≤ 9223372036854775807) (ho : ∀ x ∈ l, x.f0.length ≤ B) (k : Nat) (hk : l.length + B + 5 < k) : spec_AreValidRuns.f k l = some (l.all vRun) := by
  unfold spec_AreValidRuns.f
  exact vRuns_spec_go l B hB hl ho l.length k 0 (by omega) (by omega) (by omega) hk
theorem vRuns_impl_go (l : List S93) (B : Nat) (hB : B ≤ 9223372036854775807) (hl : l.length ≤ 9223372036854775807) (ho : ∀ x ∈ l, x.f0.length ≤ B) (d : Nat) : ∀ (k : Nat) (i : Int), 0 ≤ i → i ≤ l.length → (l.length : Int) - i = d → d + B + 5 < k → impl_AreValidRuns.l0 k l (l.length : Int) i = some ((l.drop i.toNat).all vRun) := by
  induction d with
  | zero =>
    intro k i h0 h1 hd hk
    obtain ⟨k, rfl⟩ : ∃ m, k = m + 1 := ⟨k - 1, by omega⟩
    simp only [impl_AreValidRuns.l0]
    rw [if_neg (by omega), drop_end l i (by omega)]
    rfl
  | succ d ih =>
    intro k i h0 h1 hd hk
    obtain ⟨k, rfl⟩ : ∃ m, k = m + 1 := ⟨k - 1, by omega⟩
    have hm : (rd_T93 l i).f0.length ≤ B := ho _ (getD_mem l z93 i h0 (by omega))
    have hD : l.drop i.toNat = rd_T93 l i :: l.drop (i + 1).toNat := drop_getD l z93 i h0 (by omega)
    have a1 := srt_impl (rd_T93 l i).f0 (by omega) k (by omega)
    have a2 := vRows_impl (rd_T93 l i).f0 (by omega) k (by omega)
    simp only [impl_AreValidRuns.l0]
    rw [if_pos (by omega), if_pos h0, if_pos (by omega), wrap_succ h0 (n := l.length) (by omega) (by omega), ih k (i + 1) (by omega) (by omega) (by omega) (by omega), hD]
    generalize rd_T93 l i = x at *
    rw [a1, a2]
    simp only [Option.bind_some, List.all_cons, vRun]
    by_cases he : x.f0.length = 0
    · rw [if_pos (by omega), decide_eq_true he]
      rfl
    · rw [if_neg (by omega), decide_eq_false he]
      cases srtd x.f0 <;> cases vRows x.f0 <;> simp
theorem vRuns_impl (l : List S93) (B : Nat) (hB : B ≤ 9223372036854775807) (hl : l.length ≤ 9223372036854775807) (ho : ∀ x ∈ l, x.f0.length ≤ B) (k : Nat) (hk : l.length + B + 5 < k) : impl_AreValidRuns.f k l = some (l.all vRun) := by
  unfold impl_AreValidRuns.f
  exact vRuns_impl_go l B hB hl ho l.length k 0 (by omega) (by omega) (by omega) hk
end Go.Proofs.Ytngeppmincgebaa.Pure
