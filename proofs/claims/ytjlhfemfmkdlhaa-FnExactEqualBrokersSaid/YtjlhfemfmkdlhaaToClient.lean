/- Plain lemmas: the law's own copies and comparisons of slices (Client). -/
import Derived.Test.YtjlhfemfmkdlhaaPx0
import Derived.Test.YtjlhfemfmkdlhaaPx2
import Derived.Test.YtjlhfemfmkdlhaaPx3
import Derived.Test.YtjlhfemfmkdlhaaPx6
import Derived.Test.YtjlhfemfmkdlhaaBase
namespace Go.Proofs.Ytjlhfemfmkdlhaa.Pure
open Go.RowKit Go.Proofs.Ytjlhfemfmkdlhaa.P Go.Proofs.YtjlhfemfmkdlhaaW.PrintWords Go.Proofs.YtjlhfemfmkdlhaaW.PrintLast

def toC (x : S95) : S53 := ⟨x.f0, x.f1, x.f2⟩
theorem szClientS_no (l : List S95) (n : Int) (h0 : 0 ≤ n) (h1 : n ≤ 1048576) (hl : l.length ≤ 9223372036854775807) (h : n < l.length) : laws_szClientS.f l n = some (-1) := by
  unfold laws_szClientS.f
  rw [if_pos (by unfold wrap64; omega)]
theorem szClientS_yes (l : List S95) (n : Int) (h0 : 0 ≤ n) (h1 : n ≤ 1048576) (h : (l.length : Int) ≤ n) : laws_szClientS.f l n = some (n - l.length) := by
  unfold laws_szClientS.f
  rw [if_neg (by unfold wrap64; omega)]
  congr 1
  unfold wrap64
  omega
theorem toClientS_go (l : List S95) (hl : l.length ≤ 1048576) (d : Nat) : ∀ (k : Nat) (acc : List S53) (i : Int), 0 ≤ i → i ≤ l.length → acc.length = l.length → acc.take i.toNat = (l.map toC).take i.toNat → (l.length : Int) - i = d → d < k →
    laws_toClientS.l0 k l acc i = some (l.map toC) := by
  induction d with
  | zero =>
    intro k acc i h0 h1 ha ht hd hk
    obtain ⟨k, rfl⟩ : ∃ m, k = m + 1 := ⟨k - 1, by omega⟩
    simp only [laws_toClientS.l0]
    rw [if_neg (by omega)]
    exact congrArg some (take_all acc _ i (by omega) (by rw [List.length_map]; exact ha) ht)
  | succ d ih =>
    intro k acc i h0 h1 ha ht hd hk
    obtain ⟨k, rfl⟩ : ∃ m, k = m + 1 := ⟨k - 1, by omega⟩
    simp only [laws_toClientS.l0]
    rw [if_pos (by omega), if_pos h0]
    simp only [laws_toClient.f, Option.bind_some]
    rw [if_pos (by omega), wrap_succ h0 (n := l.length) (by omega) (by omega)]
    exact ih k _ (i + 1) (by omega) (by omega) (by rw [List.length_set]; exact ha) (take_set_succ toC l acc z95 i h0 (by omega) ha ht) (by omega) (by omega)
theorem toClientS_eq (l : List S95) (hl : l.length ≤ 1048576) (k : Nat) (hk : l.length < k) : laws_toClientS.f k l = some (l.map toC) := by
  unfold laws_toClientS.f
  rw [if_pos (by omega), if_pos (by omega)]
  exact toClientS_go l hl l.length k _ 0 (by omega) (by omega) (by simp) rfl (by omega) hk
theorem toClientS_ev (l : List S95) (hl : l.length ≤ 1048576) : Ev (fun k => laws_toClientS.f k l) (l.map toC) := ⟨l.length + 1, fun k hk => toClientS_eq l hl k (by omega)⟩
theorem eqClient_self (x : S53) : laws_eqClient.f x.f0 x.f1 x.f2 x.f0 x.f1 x.f2 = some true := by
  simp [laws_eqClient.f]
theorem eqClientS_go (l : List S53) (hl : l.length ≤ 9223372036854775807) (d : Nat) : ∀ (k : Nat) (i : Int), 0 ≤ i → i ≤ l.length → (l.length : Int) - i = d → d < k → laws_eqClientS.l0 k l l i = some true := by
  induction d with
  | zero =>
    intro k i h0 h1 hd hk
    obtain ⟨k, rfl⟩ : ∃ m, k = m + 1 := ⟨k - 1, by omega⟩
    simp only [laws_eqClientS.l0]
    rw [if_neg (by omega)]
  | succ d ih =>
    intro k i h0 h1 hd hk
    obtain ⟨k, rfl⟩ : ∃ m, k = m + 1 := ⟨k - 1, by omega⟩
    simp only [laws_eqClientS.l0]
    rw [if_pos (by omega), if_pos h0, if_pos (by omega), eqClient_self]
    simp only [Option.bind_some, if_true]
    rw [wrap_succ h0 (n := l.length) (by omega) (by omega)]
    exact ih k (i + 1) (by omega) (by omega) (by omega) (by omega)
theorem eqClientS_self (l : List S53) (hl : l.length ≤ 9223372036854775807) (k : Nat) (hk : l.length < k) : laws_eqClientS.f k l l = some true := by
  unfold laws_eqClientS.f
  rw [if_pos rfl]
  exact eqClientS_go l hl l.length k 0 (by omega) (by omega) (by omega) hk
theorem eqClientS_ev (l : List S53) (hl : l.length ≤ 9223372036854775807) : Ev (fun k => laws_eqClientS.f k l l) true := ⟨l.length + 1, fun k hk => eqClientS_self l hl k (by omega)⟩
end Go.Proofs.Ytjlhfemfmkdlhaa.Pure
