/- Plain lemmas: the law's own copies and comparisons of slices (Group). -/
import Derived.Test.YtngeppmincgebaaPx0
import Derived.Test.YtngeppmincgebaaPx10
import Derived.Test.YtngeppmincgebaaPx11
import Derived.Test.YtngeppmincgebaaPx6
import Derived.Test.YtngeppmincgebaaPx8
import Derived.Test.YtngeppmincgebaaBase
namespace Go.Proofs.Ytngeppmincgebaa.Pure
open Go.RowKit Go.Proofs.Ytngeppmincgebaa.P Go.Proofs.YtngeppmincgebaaW.PrintWords Go.Proofs.YtngeppmincgebaaW.PrintLast

def toG (x : S83) : S81 := ⟨x.f0, x.f1, x.f2, x.f3, x.f4⟩
theorem szGroupS_no (l : List S83) (n : Int) (h0 : 0 ≤ n) (h1 : n ≤ 1048576) (hl : l.length ≤ 9223372036854775807) (h : n < l.length) : laws_szGroupS.f l n = some (-1) := by
  unfold laws_szGroupS.f
  rw [if_pos (by unfold wrap64; omega)]
theorem szGroupS_yes (l : List S83) (n : Int) (h0 : 0 ≤ n) (h1 : n ≤ 1048576) (h : (l.length : Int) ≤ n) : laws_szGroupS.f l n = some (n - l.length) := by
  unfold laws_szGroupS.f
  rw [if_neg (by unfold wrap64; omega)]
  congr 1
  unfold wrap64
  omega
theorem toGroupS_go (l : List S83) (hl : l.length ≤ 1048576) (d : Nat) : ∀ (k : Nat) (acc : List S81) (i : Int), 0 ≤ i → i ≤ l.length → acc.length = l.length → acc.take i.toNat = (l.map toG).take i.toNat → (l.length : Int) - i = d → d < k →
    laws_toGroupS.l0 k l acc i = some (l.map toG) := by
  induction d with
  | zero =>
    intro k acc i h0 h1 ha ht hd hk
    obtain ⟨k, rfl⟩ : ∃ m, k = m + 1 := ⟨k - 1, by omega⟩
    simp only [laws_toGroupS.l0]
    rw [if_neg (by omega)]
    exact congrArg some (take_all acc _ i (by omega) (by rw [List.length_map]; exact ha) ht)
  | succ d ih =>
    intro k acc i h0 h1 ha ht hd hk
    obtain ⟨k, rfl⟩ : ∃ m, k = m + 1 := ⟨k - 1, by omega⟩
    simp only [laws_toGroupS.l0]
    rw [if_pos (by omega), if_pos h0]
    simp only [laws_toGroup.f, Option.bind_some]
    rw [if_pos (by omega), wrap_succ h0 (n := l.length) (by omega) (by omega)]
    exact ih k _ (i + 1) (by omega) (by omega) (by rw [List.length_set]; exact ha) (take_set_succ toG l acc z83 i h0 (by omega) ha ht) (by omega) (by omega)
theorem toGroupS_eq (l : List S83) (hl : l.length ≤ 1048576) (k : Nat) (hk : l.length < k) : laws_toGroupS.f k l = some (l.map toG) := by
  unfold laws_toGroupS.f
  rw [if_pos (by omega), if_pos (by omega)]
  exact toGroupS_go l hl l.length k _ 0 (by omega) (by omega) (by simp) rfl (by omega) hk
theorem toGroupS_ev (l : List S83) (hl : l.length ≤ 1048576) : Ev (fun k => laws_toGroupS.f k l) (l.map toG) := ⟨l.length + 1, fun k hk => toGroupS_eq l hl k (by omega)⟩
theorem eqGroup_self (x : S81) : laws_eqGroup.f x.f0 x.f1 x.f2 x.f3 x.f4 x.f0 x.f1 x.f2 x.f3 x.f4 = some true := by
  simp [laws_eqGroup.f]
theorem eqGroupS_go (l : List S81) (hl : l.length ≤ 9223372036854775807) (d : Nat) : ∀ (k : Nat) (i : Int), 0 ≤ i → i ≤ l.length → (l.length : Int) - i = d → d < k → laws_eqGroupS.l0 k l l i = some true := by
  induction d with
  | zero =>
    intro k i h0 h1 hd hk
    obtain ⟨k, rfl⟩ : ∃ m, k = m + 1 := ⟨k - 1, by omega⟩
    simp only [laws_eqGroupS.l0]
    rw [if_neg (by omega)]
  | succ d ih =>
    intro k i h0 h1 hd hk
    obtain ⟨k, rfl⟩ : ∃ m, k = m + 1 := ⟨k - 1, by omega⟩
    simp only [laws_eqGroupS.l0]
    rw [if_pos (by omega), if_pos h0, if_pos (by omega), eqGroup_self]
    simp only [Option.bind_some, if_true]
    rw [wrap_succ h0 (n := l.length) (by omega) (by omega)]
    exact ih k (i + 1) (by omega) (by omega) (by omega) (by omega)
theorem eqGroupS_self (l : List S81) (hl : l.length ≤ 9223372036854775807) (k : Nat) (hk : l.length < k) : laws_eqGroupS.f k l l = some true := by
  unfold laws_eqGroupS.f
  rw [if_pos rfl]
  exact eqGroupS_go l hl l.length k 0 (by omega) (by omega) (by omega) hk
theorem eqGroupS_ev (l : List S81) (hl : l.length ≤ 9223372036854775807) : Ev (fun k => laws_eqGroupS.f k l l) true := ⟨l.length + 1, fun k hk => eqGroupS_self l hl k (by omega)⟩
end Go.Proofs.Ytngeppmincgebaa.Pure
