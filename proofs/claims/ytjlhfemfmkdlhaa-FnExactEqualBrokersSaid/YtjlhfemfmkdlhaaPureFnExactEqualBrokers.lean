/- The law FnExactEqualBrokers answers true for every input: the program's EqualBrokers returns what the reference's returns. No condition. -/
import Derived.Test.YtjlhfemfmkdlhaaPx0
import Derived.Test.YtjlhfemfmkdlhaaPx6
import Derived.Test.YtjlhfemfmkdlhaaPx7
import Derived.Test.YtjlhfemfmkdlhaaPx8
import Derived.Test.YtjlhfemfmkdlhaaStmtFnExactEqualBrokers
import Derived.Test.YtjlhfemfmkdlhaaBrokers
namespace Go.Proofs.Ytjlhfemfmkdlhaa.Pure
open Go.RowKit Go.Proofs.Ytjlhfemfmkdlhaa.P Go.Proofs.Ytjlhfemfmkdlhaa.StFnExactEqualBrokers Go.Proofs.YtjlhfemfmkdlhaaW.PrintWords Go.Proofs.YtjlhfemfmkdlhaaW.PrintLast Go.Proofs.Ytjlhfemfmkdlhaa.Opn

/-- Both loops tell the same, and end. -/
theorem same_go (a b : List S53) (hl : a.length = b.length) (ha : a.length ≤ 1048576) (d : Nat) : ∀ (k : Nat) (i : Int), 0 ≤ i → i ≤ a.length → (a.length : Int) - i = d → d < k →
    ∃ r, spec_l10Same.l0 k a b i = some r ∧ impl_Client.l0 k a b (a.length : Int) i = some r := by
  induction d with
  | zero =>
    intro k i h0 h1 hd hk
    obtain ⟨k, rfl⟩ : ∃ m, k = m + 1 := ⟨k - 1, by omega⟩
    rw [spec_l10Same.l0, impl_Client.l0, if_neg (by omega), if_neg (by omega)]
    exact ⟨true, rfl, rfl⟩
  | succ d ih =>
    intro k i h0 h1 hd hk
    obtain ⟨k, rfl⟩ : ∃ m, k = m + 1 := ⟨k - 1, by omega⟩
    rw [spec_l10Same.l0, impl_Client.l0, if_pos (show i < (a.length : Int) by omega), if_pos (show i < (a.length : Int) by omega), if_pos h0, if_pos h0, if_pos (show i < (b.length : Int) by omega), if_pos (show i < (a.length : Int) by omega), if_pos (show i < (b.length : Int) by omega), wrap_succ h0 (n := a.length) (by omega) (by omega)]
    split
    · exact ⟨false, rfl, rfl⟩
    · exact ih k (i + 1) (by omega) (by omega) (by omega) (by omega)
theorem same_both (a b : List S53) (ha : a.length ≤ 1048576) (k : Nat) (hk : 1048576 < k) : ∃ r, spec_l10Same.f k a b = some r ∧ impl_Client.f k a b = some r := by
  unfold spec_l10Same.f impl_Client.f
  by_cases h : (a.length : Int) = (b.length : Int)
  · rw [if_pos h, if_pos h]
    exact same_go a b (by omega) ha a.length k 0 (by omega) (by omega) (by omega) (by omega)
  · rw [if_neg h, if_neg h]
    exact ⟨false, rfl, rfl⟩
theorem equal_both (a0 a1 b0 b1 : Int) (a2 a3 b2 b3 : List S53) (h2 : a2.length ≤ 1048576) (h3 : a3.length ≤ 1048576) (k : Nat) (hk : 1048576 < k) : ∃ r, spec_EqualBrokers.f k a0 a1 a2 a3 b0 b1 b2 b3 = some r ∧ impl_EqualBrokers.f k a0 a1 a2 a3 b0 b1 b2 b3 = some r := by
  unfold spec_EqualBrokers.f impl_EqualBrokers.f
  by_cases h0 : a0 = b0
  · rw [if_pos h0, if_pos h0]
    by_cases h1 : a1 = b1
    · rw [if_pos h1, if_pos h1]
      obtain ⟨r, e1, e2⟩ := same_both a2 b2 h2 k hk
      obtain ⟨s, f1, f2⟩ := same_both a3 b3 h3 k hk
      rw [e1, e2, f1, f2]
      cases r
      · exact ⟨false, rfl, rfl⟩
      · exact ⟨s, rfl, rfl⟩
    · rw [if_neg h1, if_neg h1]
      exact ⟨false, rfl, rfl⟩
  · rw [if_neg h0, if_neg h0]
    exact ⟨false, rfl, rfl⟩
theorem FnExactEqualBrokers : StFnExactEqualBrokers.Pure := by
  intro x y hx hy
  obtain ⟨_, _, hx2, hx3⟩ := hx
  obtain ⟨_, _, hy2, hy3⟩ := hy
  obtain ⟨k, hk⟩ : ∃ k : Nat, k = 1048577 := ⟨_, rfl⟩
  refine ⟨k, ?_⟩
  unfold laws_FnExactEqualBrokers.f
  rw [szBroker_eq x.f2 x.f3 x.f0 x.f1 1048576 hx2.1 hx3.1 (by omega) (by omega)]
  simp only [Option.bind_some]
  by_cases b : (x.f2.length : Int) + x.f3.length ≤ 1048576
  · rw [if_pos b, if_neg (by omega), szBroker_eq y.f2 y.f3 y.f0 y.f1 _ hy2.1 hy3.1 (by omega) (by omega)]
    simp only [Option.bind_some]
    by_cases c : (y.f2.length : Int) + y.f3.length ≤ 1048576 - x.f2.length - x.f3.length
    · rw [if_pos c, if_neg (by omega), toBroker_eq x.f2 x.f3 x.f0 x.f1 (by omega) (by omega) k (by omega), toBroker_eq y.f2 y.f3 y.f0 y.f1 (by omega) (by omega) k (by omega)]
      simp only [Option.bind_some]
      have l2 : (x.f2.map toC).length ≤ 1048576 := by rw [List.length_map]; omega
      have l3 : (x.f3.map toC).length ≤ 1048576 := by rw [List.length_map]; omega
      have m2 : (y.f2.map toC).length ≤ 1048576 := by rw [List.length_map]; omega
      have m3 : (y.f3.map toC).length ≤ 1048576 := by rw [List.length_map]; omega
      obtain ⟨r, e1, e2⟩ := equal_both x.f0 x.f1 y.f0 y.f1 (x.f2.map toC) (x.f3.map toC) (y.f2.map toC) (y.f3.map toC) l2 l3 k (by omega)
      rw [e1, e2]
      simp only [Option.bind_some, eqBroker_self _ _ _ _ l2 l3 k (by omega), eqBroker_self _ _ _ _ m2 m3 k (by omega), bne_self_eq_false, Bool.false_eq_true, if_false, if_true]
    · rw [if_neg c]
      rfl
  · rw [if_neg b]
    rfl
end Go.Proofs.Ytjlhfemfmkdlhaa.Pure
