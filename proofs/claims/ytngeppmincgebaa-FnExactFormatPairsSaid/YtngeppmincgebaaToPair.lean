/- Plain lemmas: the law's own copies and comparisons of slices (Pair). -/
import Derived.Test.YtngeppmincgebaaPx0
import Derived.Test.YtngeppmincgebaaPx2
import Derived.Test.YtngeppmincgebaaPx21
import Derived.Test.YtngeppmincgebaaPx23
import Derived.Test.YtngeppmincgebaaPx25
import Derived.Test.YtngeppmincgebaaPx4
import Derived.Test.YtngeppmincgebaaBase
namespace Go.Proofs.Ytngeppmincgebaa.Pure
open Go.RowKit Go.Proofs.Ytngeppmincgebaa.P Go.Proofs.YtngeppmincgebaaW.PrintWords Go.Proofs.YtngeppmincgebaaW.PrintLast

def toP (x : S101) : S98 := ⟨⟨x.f0.f0, x.f0.f1, x.f0.f2⟩, ⟨x.f1.f0, x.f1.f1, x.f1.f2⟩, x.f2⟩
theorem szPairS_no (l : List S101) (n : Int) (h0 : 0 ≤ n) (h1 : n ≤ 1048576) (hl : l.length ≤ 9223372036854775807) (h : n < l.length) : laws_szPairS.f l n = some (-1) := by
  unfold laws_szPairS.f
  rw [if_pos (by unfold wrap64; omega)]
theorem szPairS_yes (l : List S101) (n : Int) (h0 : 0 ≤ n) (h1 : n ≤ 1048576) (h : (l.length : Int) ≤ n) : laws_szPairS.f l n = some (n - l.length) := by
  unfold laws_szPairS.f
  rw [if_neg (by unfold wrap64; omega)]
  congr 1
  unfold wrap64
  omega
theorem toPairS_go (l : List S101) (hl : l.length ≤ 1048576) (d : Nat) : ∀ (k : Nat) (acc : List S98) (i : Int), 0 ≤ i → i ≤ l.length → acc.length = l.length → acc.take i.toNat = (l.map toP).take i.toNat → (l.length : Int) - i = d → d < k →
    laws_toPairS.l0 k l acc i = some (l.map toP) := by
  induction d with
  | zero =>
    intro k acc i h0 h1 ha ht hd hk
    obtain ⟨k, rfl⟩ : ∃ m, k = m + 1 := ⟨k - 1, by omega⟩
    simp only [laws_toPairS.l0]
    rw [if_neg (by omega)]
    exact congrArg some (take_all acc _ i (by omega) (by rw [List.length_map]; exact ha) ht)
  | succ d ih =>
    intro k acc i h0 h1 ha ht hd hk
    obtain ⟨k, rfl⟩ : ∃ m, k = m + 1 := ⟨k - 1, by omega⟩
    simp only [laws_toPairS.l0]
    rw [if_pos (by omega), if_pos h0]
    simp only [laws_toPair.f, laws_toRow.f, Option.bind_some]
    rw [if_pos (by omega), wrap_succ h0 (n := l.length) (by omega) (by omega)]
    exact ih k _ (i + 1) (by omega) (by omega) (by rw [List.length_set]; exact ha) (take_set_succ toP l acc z101 i h0 (by omega) ha ht) (by omega) (by omega)
theorem toPairS_eq (l : List S101) (hl : l.length ≤ 1048576) (k : Nat) (hk : l.length < k) : laws_toPairS.f k l = some (l.map toP) := by
  unfold laws_toPairS.f
  rw [if_pos (by omega), if_pos (by omega)]
  exact toPairS_go l hl l.length k _ 0 (by omega) (by omega) (by simp) rfl (by omega) hk
theorem toPairS_ev (l : List S101) (hl : l.length ≤ 1048576) : Ev (fun k => laws_toPairS.f k l) (l.map toP) := ⟨l.length + 1, fun k hk => toPairS_eq l hl k (by omega)⟩
theorem eqPair_self (x : S98) : laws_eqPair.f x.f0.f0 x.f0.f1 x.f0.f2 x.f1.f0 x.f1.f1 x.f1.f2 x.f2 x.f0.f0 x.f0.f1 x.f0.f2 x.f1.f0 x.f1.f1 x.f1.f2 x.f2 = some true := by
  simp [laws_eqPair.f, laws_eqRow.f]
theorem eqPairS_go (l : List S98) (hl : l.length ≤ 9223372036854775807) (d : Nat) : ∀ (k : Nat) (i : Int), 0 ≤ i → i ≤ l.length → (l.length : Int) - i = d → d < k → laws_eqPairS.l0 k l l i = some true := by
  induction d with
  | zero =>
    intro k i h0 h1 hd hk
    obtain ⟨k, rfl⟩ : ∃ m, k = m + 1 := ⟨k - 1, by omega⟩
    simp only [laws_eqPairS.l0]
    rw [if_neg (by omega)]
  | succ d ih =>
    intro k i h0 h1 hd hk
    obtain ⟨k, rfl⟩ : ∃ m, k = m + 1 := ⟨k - 1, by omega⟩
    simp only [laws_eqPairS.l0]
    rw [if_pos (by omega), if_pos h0, if_pos (by omega), eqPair_self]
    simp only [Option.bind_some, if_true]
    rw [wrap_succ h0 (n := l.length) (by omega) (by omega)]
    exact ih k (i + 1) (by omega) (by omega) (by omega) (by omega)
theorem eqPairS_self (l : List S98) (hl : l.length ≤ 9223372036854775807) (k : Nat) (hk : l.length < k) : laws_eqPairS.f k l l = some true := by
  unfold laws_eqPairS.f
  rw [if_pos rfl]
  exact eqPairS_go l hl l.length k 0 (by omega) (by omega) (by omega) hk
theorem eqPairS_ev (l : List S98) (hl : l.length ≤ 9223372036854775807) : Ev (fun k => laws_eqPairS.f k l l) true := ⟨l.length + 1, fun k hk => eqPairS_self l hl k (by omega)⟩
end Go.Proofs.Ytngeppmincgebaa.Pure
