/- Plain lemmas: brokers copied and compared. -/
import Derived.Test.YtjlhfemfmkdlhaaPx0
import Derived.Test.YtjlhfemfmkdlhaaPx3
import Derived.Test.YtjlhfemfmkdlhaaPx6
import Derived.Test.YtjlhfemfmkdlhaaPx7
import Derived.Test.YtjlhfemfmkdlhaaToClient
namespace Go.Proofs.Ytjlhfemfmkdlhaa.Pure
open Go.RowKit Go.Proofs.Ytjlhfemfmkdlhaa.P Go.Proofs.YtjlhfemfmkdlhaaW.PrintWords Go.Proofs.YtjlhfemfmkdlhaaW.PrintLast

theorem szBroker_eq (l2 l3 : List S95) (a0 a1 n : Int) (h2 : l2.length ≤ 9223372036854775807) (h3 : l3.length ≤ 9223372036854775807) (hn : 0 ≤ n) (hn2 : n ≤ 1048576) :
    laws_szBroker.f a0 a1 l2 l3 n = some (if (l2.length : Int) + l3.length ≤ n then n - l2.length - l3.length else -1) := by
  unfold laws_szBroker.f
  by_cases b2 : n < l2.length
  · rw [szClientS_no l2 n hn hn2 h2 b2, if_neg (by omega)]
    rfl
  rw [szClientS_yes l2 n hn hn2 (by omega)]
  simp only [Option.bind_some]
  rw [if_neg (by omega)]
  by_cases b3 : n - l2.length < l3.length
  · rw [szClientS_no l3 _ (by omega) (by omega) h3 b3, if_neg (by omega)]
    rfl
  rw [szClientS_yes l3 _ (by omega) (by omega) (by omega)]
  simp only [Option.bind_some]
  rw [if_neg (by omega), if_pos (by omega)]
theorem toBroker_eq (l2 l3 : List S95) (a0 a1 : Int) (h2 : l2.length ≤ 1048576) (h3 : l3.length ≤ 1048576) (k : Nat) (hk : 1048576 < k) : laws_toBroker.f k a0 a1 l2 l3 = some (a0, a1, l2.map toC, l3.map toC) := by
  unfold laws_toBroker.f
  rw [toClientS_eq l2 h2 k (by omega), toClientS_eq l3 h3 k (by omega)]
  rfl
theorem eqBroker_self (l2 l3 : List S53) (a0 a1 : Int) (h2 : l2.length ≤ 1048576) (h3 : l3.length ≤ 1048576) (k : Nat) (hk : 1048576 < k) : laws_eqBroker.f k a0 a1 l2 l3 a0 a1 l2 l3 = some true := by
  unfold laws_eqBroker.f
  rw [if_pos rfl, if_pos rfl, eqClientS_self l2 (by omega) k (by omega), eqClientS_self l3 (by omega) k (by omega)]
  rfl
end Go.Proofs.Ytjlhfemfmkdlhaa.Pure
