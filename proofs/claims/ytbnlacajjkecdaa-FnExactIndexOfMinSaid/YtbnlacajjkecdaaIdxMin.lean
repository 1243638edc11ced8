/- Plain lemmas: the place of the least row, by the program and by the reference. -/
import Derived.Test.YtbnlacajjkecdaaPx0
import Derived.Test.YtbnlacajjkecdaaPx27
import Derived.Test.YtbnlacajjkecdaaPx29
import Derived.Test.YtbnlacajjkecdaaCmp
import Derived.Test.YtbnlacajjkecdaaToRow
namespace Go.Proofs.Ytbnlacajjkecdaa.Pure
open Go.RowKit Go.Proofs.Ytbnlacajjkecdaa.P Go.Proofs.YtbnlacajjkecdaaW.PrintWords Go.Proofs.YtbnlacajjkecdaaW.PrintLast

theorem idx_same (l : List S39) (hl : l.length ≤ 9223372036854775807) (d : Nat) : ∀ (k : Nat) (b i : Int), 0 ≤ i → i ≤ l.length → b < i → -1 ≤ b → (l.length : Int) - i = d → d + 5 < k →
    ∃ r, spec_IndexOfMin.l0 k l b i = some r ∧ impl_IndexOfMin.l0 k l b l (l.length : Int) i = some r ∧ -1 ≤ r ∧ r < l.length := by
  induction d with
  | zero =>
    intro k b i h0 h1 hb hb1 hd hk
    obtain ⟨k, rfl⟩ : ∃ m, k = m + 1 := ⟨k - 1, by omega⟩
    simp only [spec_IndexOfMin.l0, impl_IndexOfMin.l0]
    rw [if_neg (by omega), if_neg (by omega)]
    exact ⟨b, rfl, rfl, hb1, by omega⟩
  | succ d ih =>
    intro k b i h0 h1 hb hb1 hd hk
    obtain ⟨k, rfl⟩ : ∃ m, k = m + 1 := ⟨k - 1, by omega⟩
    simp only [spec_IndexOfMin.l0, impl_IndexOfMin.l0]
    rw [if_pos (by omega), if_pos (show i < (l.length : Int) by omega), if_pos (show 0 ≤ i from h0), if_pos (show 0 ≤ i from h0), if_pos (show i < (l.length : Int) by omega), wrap_succ h0 (n := l.length) (by omega) (by omega)]
    by_cases hn : b < 0
    · rw [if_pos hn, if_pos hn]
      exact ih k i (i + 1) (by omega) (by omega) (by omega) (by omega) (by omega) (by omega)
    · rw [if_neg hn, if_neg hn, if_pos (show 0 ≤ b by omega), if_pos (show b < (l.length : Int) by omega), if_pos (show 0 ≤ b by omega), if_pos (show b < (l.length : Int) by omega), cmp_spec _ _ k (by omega), cmp_impl]
      simp only [Option.bind_some]
      by_cases hc : cmpR (rd_T39 l i) (rd_T39 l b) < 0
      · rw [if_pos hc, if_pos hc]
        exact ih k i (i + 1) (by omega) (by omega) (by omega) (by omega) (by omega) (by omega)
      · rw [if_neg hc, if_neg hc]
        exact ih k b (i + 1) (by omega) (by omega) (by omega) (by omega) (by omega) (by omega)
theorem idx_ev (l : List S39) (hl : l.length ≤ 9223372036854775807) : ∃ r, Ev (fun k => spec_IndexOfMin.f k l) r ∧ Ev (fun k => impl_IndexOfMin.f k l) r ∧ -1 ≤ r ∧ r < l.length := by
  obtain ⟨r, h1, h2, h3, h4⟩ := idx_same l hl l.length (l.length + 6) (-1) 0 (by omega) (by omega) (by omega) (by omega) (by omega) (by omega)
  exact ⟨r, Ev.of (fun k => spec_IndexOfMin.mono l k) h1, Ev.of (fun k => impl_IndexOfMin.mono l k) h2, h3, h4⟩
end Go.Proofs.Ytbnlacajjkecdaa.Pure
