/- Plain lemmas: the cost of a row and of rows. -/
import Derived.Test.YtngeppmincgebaaPx0
import Derived.Test.YtngeppmincgebaaPx2
import Derived.Test.YtngeppmincgebaaPx3
import Derived.Test.YtngeppmincgebaaRow
namespace Go.Proofs.Ytngeppmincgebaa.Pure
open Go.RowKit Go.Proofs.Ytngeppmincgebaa.P Go.Proofs.YtngeppmincgebaaW.PrintWords Go.Proofs.YtngeppmincgebaaW.PrintLast

def cost (x : S75) : Int := if vRow x = true then 1 + x.f2 else 0
theorem cost_bd (x : S75) : 0 ≤ cost x ∧ cost x ≤ 4 := by
  unfold cost
  split
  · have := (vRow_iff x).1 ‹_›
    omega
  · omega
theorem cost_impl (x : S75) : impl_RowCost.f x.f0 x.f1 x.f2 = some (cost x) := by
  unfold impl_RowCost.f cost
  rw [vRow_impl]
  simp only [Option.bind_some]
  split
  · have := (vRow_iff x).1 ‹_›
    rw [wrap_id (by omega) (by omega)]
  · rfl
theorem cost_spec (x : S75) : spec_RowCost.f x.f0 x.f1 x.f2 = some (cost x) := by
  unfold spec_RowCost.f cost
  rw [vRow_spec]
  simp only [Option.bind_some]
  split
  · have := (vRow_iff x).1 ‹_›
    rw [wrap_id (by omega) (by omega)]
  · rfl
def tot : List S75 → Int
  | [] => 0
  | x :: l => cost x + tot l
theorem tot_bd (l : List S75) : 0 ≤ tot l ∧ tot l ≤ 4 * l.length := by
  induction l with
  | nil => simp [tot]
  | cons x l ih =>
    have := cost_bd x
    simp only [tot, List.length_cons]
    omega
theorem tot_append (a b : List S75) : tot (a ++ b) = tot a + tot b := by
  induction a with
  | nil => simp [tot]
  | cons x a ih =>
    simp only [List.cons_append, tot, ih]
    omega
theorem tot_spec_go (l : List S75) (hl : l.length ≤ 1000000000000) (d : Nat) : ∀ (k : Nat) (acc i : Int), 0 ≤ i → i ≤ l.length → 0 ≤ acc → acc ≤ 4 * i → (l.length : Int) - i = d → d < k →
    spec_TotalCost.l0 k l acc i = some (acc + tot (l.drop i.toNat)) := by
  induction d with
  | zero =>
    intro k acc i h0 h1 ha ha2 hd hk
    obtain ⟨k, rfl⟩ : ∃ m, k = m + 1 := ⟨k - 1, by omega⟩
    simp only [spec_TotalCost.l0]
    rw [if_neg (by omega), drop_end l i (by omega)]
    simp [tot]
  | succ d ih =>
    intro k acc i h0 h1 ha ha2 hd hk
    obtain ⟨k, rfl⟩ : ∃ m, k = m + 1 := ⟨k - 1, by omega⟩
    have hc := cost_bd (rd_T75 l i)
    simp only [spec_TotalCost.l0]
    rw [if_pos (by omega), if_pos h0, cost_spec]
    simp only [Option.bind_some]
    rw [wrap_succ h0 (n := l.length) (by omega) (by omega), wrap_id (by omega) (by omega), ih k _ (i + 1) (by omega) (by omega) (by omega) (by omega) (by omega) (by omega), drop_getD l z75 i h0 (by omega)]
    simp only [tot]
    congr 1
    show acc + cost (rd_T75 l i) + _ = acc + (cost (rd_T75 l i) + _)
    omega
theorem tot_impl_go (l : List S75) (hl : l.length ≤ 1000000000000) (d : Nat) : ∀ (k : Nat) (acc i : Int), 0 ≤ i → i ≤ l.length → 0 ≤ acc → acc ≤ 4 * i → (l.length : Int) - i = d → d < k →
    impl_TotalCost.l0 k acc l (l.length : Int) i = some (acc + tot (l.drop i.toNat)) := by
  induction d with
  | zero =>
    intro k acc i h0 h1 ha ha2 hd hk
    obtain ⟨k, rfl⟩ : ∃ m, k = m + 1 := ⟨k - 1, by omega⟩
    simp only [impl_TotalCost.l0]
    rw [if_neg (by omega), drop_end l i (by omega)]
    simp [tot]
  | succ d ih =>
    intro k acc i h0 h1 ha ha2 hd hk
    obtain ⟨k, rfl⟩ : ∃ m, k = m + 1 := ⟨k - 1, by omega⟩
    have hc := cost_bd (rd_T75 l i)
    simp only [impl_TotalCost.l0]
    rw [if_pos (by omega), if_pos h0, if_pos (by omega), cost_impl]
    simp only [Option.bind_some]
    rw [wrap_succ h0 (n := l.length) (by omega) (by omega), wrap_id (by omega) (by omega), ih k _ (i + 1) (by omega) (by omega) (by omega) (by omega) (by omega) (by omega), drop_getD l z75 i h0 (by omega)]
    simp only [tot]
    congr 1
    show acc + cost (rd_T75 l i) + _ = acc + (cost (rd_T75 l i) + _)
    omega
theorem tot_spec (l : List S75) (hl : l.length ≤ 1000000000000) (k : Nat) (hk : l.length < k) : spec_TotalCost.f k l = some (tot l) := by
  unfold spec_TotalCost.f
  rw [tot_spec_go l hl l.length k 0 0 (by omega) (by omega) (by omega) (by omega) (by omega) hk]
  simp
theorem tot_impl (l : List S75) (hl : l.length ≤ 1000000000000) (k : Nat) (hk : l.length < k) : impl_TotalCost.f k l = some (tot l) := by
  unfold impl_TotalCost.f
  rw [tot_impl_go l hl l.length k 0 0 (by omega) (by omega) (by omega) (by omega) (by omega) hk]
  simp
end Go.Proofs.Ytngeppmincgebaa.Pure
