/- Plain lemmas: the law's own copies and comparisons of slices (Row). -/
import Derived.Test.YtngeppmincgebaaPx0
import Derived.Test.YtngeppmincgebaaPx2
import Derived.Test.YtngeppmincgebaaPx3
import Derived.Test.YtngeppmincgebaaPx4
import Derived.Test.YtngeppmincgebaaBase
namespace Go.Proofs.Ytngeppmincgebaa.Pure
open Go.RowKit Go.Proofs.Ytngeppmincgebaa.P Go.Proofs.YtngeppmincgebaaW.PrintWords Go.Proofs.YtngeppmincgebaaW.PrintLast

def toR (x : S77) : S75 := ⟨x.f0, x.f1, x.f2⟩
theorem szRowS_no (l : List S77) (n : Int) (h0 : 0 ≤ n) (h1 : n ≤ 1048576) (hl : l.length ≤ 9223372036854775807) (h : n < l.length) : laws_szRowS.f l n = some (-1) := by
  unfold laws_szRowS.f
  rw [if_pos (by unfold wrap64; omega)]
theorem szRowS_yes (l : List S77) (n : Int) (h0 : 0 ≤ n) (h1 : n ≤ 1048576) (h : (l.length : Int) ≤ n) : laws_szRowS.f l n = some (n - l.length) := by
  unfold laws_szRowS.f
  rw [if_neg (by unfold wrap64; omega)]
  congr 1
  unfold wrap64
  omega
theorem toRowS_go (l : List S77) (hl : l.length ≤ 1048576) (d : Nat) : ∀ (k : Nat) (acc : List S75) (i : Int), 0 ≤ i → i ≤ l.length → acc.length = l.length → acc.take i.toNat = (l.map toR).take i.toNat → (l.length : Int) - i = d → d < k →
    laws_toRowS.l0 k l acc i = some (l.map toR) := by
  induction d with
  | zero =>
    intro k acc i h0 h1 ha ht hd hk
    obtain ⟨k, rfl⟩ : ∃ m, k = m + 1 := ⟨k - 1, by omega⟩
    simp only [laws_toRowS.l0]
    rw [if_neg (by omega)]
    exact congrArg some (take_all acc _ i (by omega) (by rw [List.length_map]; exact ha) ht)
  | succ d ih =>
    intro k acc i h0 h1 ha ht hd hk
    obtain ⟨k, rfl⟩ : ∃ m, k = m + 1 := ⟨k - 1, by omega⟩
    simp only [laws_toRowS.l0]
    rw [if_pos (by omega), if_pos h0]
    simp only [laws_toRow.f, Option.bind_some]
    rw [if_pos (by omega), wrap_succ h0 (n := l.length) (by omega) (by omega)]
    exact ih k _ (i + 1) (by omega) (by omega) (by rw [List.length_set]; exact ha) (take_set_succ toR l acc z77 i h0 (by omega) ha ht) (by omega) (by omega)
theorem toRowS_eq (l : List S77) (hl : l.length ≤ 1048576) (k : Nat) (hk : l.length < k) : laws_toRowS.f k l = some (l.map toR) := by
  unfold laws_toRowS.f
  rw [if_pos (by omega), if_pos (by omega)]
  exact toRowS_go l hl l.length k _ 0 (by omega) (by omega) (by simp) rfl (by omega) hk
theorem toRowS_ev (l : List S77) (hl : l.length ≤ 1048576) : Ev (fun k => laws_toRowS.f k l) (l.map toR) := ⟨l.length + 1, fun k hk => toRowS_eq l hl k (by omega)⟩
theorem eqRow_self (x : S75) : laws_eqRow.f x.f0 x.f1 x.f2 x.f0 x.f1 x.f2 = some true := by
  simp [laws_eqRow.f]
theorem eqRowS_go (l : List S75) (hl : l.length ≤ 9223372036854775807) (d : Nat) : ∀ (k : Nat) (i : Int), 0 ≤ i → i ≤ l.length → (l.length : Int) - i = d → d < k → laws_eqRowS.l0 k l l i = some true := by
  induction d with
  | zero =>
    intro k i h0 h1 hd hk
    obtain ⟨k, rfl⟩ : ∃ m, k = m + 1 := ⟨k - 1, by omega⟩
    simp only [laws_eqRowS.l0]
    rw [if_neg (by omega)]
  | succ d ih =>
    intro k i h0 h1 hd hk
    obtain ⟨k, rfl⟩ : ∃ m, k = m + 1 := ⟨k - 1, by omega⟩
    simp only [laws_eqRowS.l0]
    rw [if_pos (by omega), if_pos h0, if_pos (by omega), eqRow_self]
    simp only [Option.bind_some, if_true]
    rw [wrap_succ h0 (n := l.length) (by omega) (by omega)]
    exact ih k (i + 1) (by omega) (by omega) (by omega) (by omega)
theorem eqRowS_self (l : List S75) (hl : l.length ≤ 9223372036854775807) (k : Nat) (hk : l.length < k) : laws_eqRowS.f k l l = some true := by
  unfold laws_eqRowS.f
  rw [if_pos rfl]
  exact eqRowS_go l hl l.length k 0 (by omega) (by omega) (by omega) hk
theorem eqRowS_ev (l : List S75) (hl : l.length ≤ 9223372036854775807) : Ev (fun k => laws_eqRowS.f k l l) true := ⟨l.length + 1, fun k hk => eqRowS_self l hl k (by omega)⟩
end Go.Proofs.Ytngeppmincgebaa.Pure
