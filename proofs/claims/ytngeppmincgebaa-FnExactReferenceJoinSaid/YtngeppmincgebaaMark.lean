/- Plain lemmas: the law's own marks on a slice of rows, and the look whether they are held. -/
import Derived.Test.YtngeppmincgebaaPx0
import Derived.Test.YtngeppmincgebaaPx17
import Derived.Test.YtngeppmincgebaaBase
namespace Go.Proofs.Ytngeppmincgebaa.Pure
open Go.RowKit Go.Proofs.Ytngeppmincgebaa.P Go.Proofs.YtngeppmincgebaaW.PrintWords Go.Proofs.YtngeppmincgebaaW.PrintLast

/-- The marks: three numbers a row, from n on. -/
def mks (n : Int) : Nat → List S75
  | 0 => []
  | d + 1 => ⟨n, n + 1, n + 2⟩ :: mks (n + 3) d
theorem mks_len (d : Nat) : ∀ n, (mks n d).length = d := by
  induction d with
  | zero => intro n; rfl
  | succ d ih => intro n; simp only [mks, List.length_cons, ih]
theorem rd_set (l : List S75) (i : Int) (x : S75) (h0 : 0 ≤ i) (h : i < (l.length : Int)) : rd_T75 (l.set i.toNat x) i = x := by
  have hi : i.toNat < l.length := by omega
  unfold rd_T75
  rw [List.getD_eq_getElem?_getD, List.getElem?_set_self hi]
  rfl
theorem mark_go (d : Nat) : ∀ (k : Nat) (l : List S75) (n i : Int), 0 ≤ i → i ≤ l.length → l.length ≤ 1000000000000 → 0 ≤ n → n + 3 * d ≤ 9000000000000000000 → (l.length : Int) - i = d → d < k →
    laws_markRowS.l0 k l n i = some (n + 3 * d, l.take i.toNat ++ mks n d) := by
  induction d with
  | zero =>
    intro k l n i h0 h1 hl hn hn2 hd hk
    obtain ⟨k, rfl⟩ : ∃ m, k = m + 1 := ⟨k - 1, by omega⟩
    simp only [laws_markRowS.l0]
    rw [if_neg (by omega), List.take_of_length_le (by omega)]
    simp [mks]
  | succ d ih =>
    intro k l n i h0 h1 hl hn hn2 hd hk
    obtain ⟨k, rfl⟩ : ∃ m, k = m + 1 := ⟨k - 1, by omega⟩
    simp only [laws_markRowS.l0]
    rw [if_pos (by omega), if_pos h0]
    simp only [Option.bind_some]
    rw [wrap_succ h0 (n := l.length) (by omega) (by omega), wrap_id (x := n + 1) (by omega) (by omega), wrap_id (x := n + 1 + 1) (by omega) (by omega), wrap_id (x := n + 1 + 1 + 1) (by omega) (by omega)]
    have e0 : ∀ x, rd_T75 (l.set i.toNat x) i = x := fun x => rd_set l i x h0 (by omega)
    simp only [e0, List.set_set]
    rw [ih k _ (n + 1 + 1 + 1) (i + 1) (by omega) (by rw [List.length_set]; omega) (by rw [List.length_set]; omega) (by omega) (by omega) (by rw [List.length_set]; omega) (by omega)]
    have hi : i.toNat < l.length := by omega
    have e : List.take (i + 1).toNat (l.set i.toNat ⟨n, n + 1, n + 1 + 1⟩) = l.take i.toNat ++ [⟨n, n + 1, n + 1 + 1⟩] := by
      rw [show (i + 1).toNat = i.toNat + 1 by omega, List.take_add_one, List.take_set_of_le (by omega), List.getElem?_set_self hi]
      rfl
    rw [e]
    simp only [mks]
    rw [show n + 1 + 1 + 1 = n + 3 by omega, show n + 1 + 1 = n + 2 by omega, List.append_assoc]
    congr 2
    omega
theorem mark_eq (l : List S75) (hl : l.length ≤ 1000000000000) (n : Int) (hn : 0 ≤ n) (hn2 : n + 3 * l.length ≤ 9000000000000000000) (k : Nat) (hk : l.length < k) :
    laws_markRowS.f k l n = some (n + 3 * l.length, mks n l.length) := by
  unfold laws_markRowS.f
  rw [mark_go l.length k l n 0 (by omega) (by omega) hl hn hn2 (by omega) hk]
  simp
theorem held_go (d : Nat) : ∀ (k : Nat) (l : List S75) (n i : Int), 0 ≤ i → i ≤ l.length → l.length ≤ 1000000000000 → 0 ≤ n → n + 3 * d ≤ 9000000000000000000 → (l.length : Int) - i = d → d < k →
    l.drop i.toNat = mks n d → laws_heldRowS.l0 k l n i = some (n + 3 * d) := by
  induction d with
  | zero =>
    intro k l n i h0 h1 hl hn hn2 hd hk _
    obtain ⟨k, rfl⟩ : ∃ m, k = m + 1 := ⟨k - 1, by omega⟩
    simp only [laws_heldRowS.l0]
    rw [if_neg (by omega)]
    simp
  | succ d ih =>
    intro k l n i h0 h1 hl hn hn2 hd hk hm
    obtain ⟨k, rfl⟩ : ∃ m, k = m + 1 := ⟨k - 1, by omega⟩
    rw [drop_getD l z75 i h0 (by omega)] at hm
    simp only [mks] at hm
    obtain ⟨e1, e2⟩ := List.cons.inj hm
    have e3 : rd_T75 l i = ⟨n, n + 1, n + 2⟩ := e1
    simp only [laws_heldRowS.l0]
    rw [if_pos (by omega), if_pos h0, e3]
    simp only
    rw [if_true, wrap_succ h0 (n := l.length) (by omega) (by omega), wrap_id (x := n + 1) (by omega) (by omega), wrap_id (x := n + 1 + 1) (by omega) (by omega), wrap_id (x := n + 1 + 1 + 1) (by omega) (by omega), if_pos rfl, if_pos (by omega)]
    rw [ih k l (n + 1 + 1 + 1) (i + 1) (by omega) (by omega) hl (by omega) (by omega) (by omega) (by omega) (by rw [e2]; congr 1; omega)]
    congr 1
    omega
theorem held_eq (n : Int) (d : Nat) (hd : d ≤ 1000000000000) (hn : 0 ≤ n) (hn2 : n + 3 * d ≤ 9000000000000000000) (k : Nat) (hk : d < k) : laws_heldRowS.f k (mks n d) n = some (n + 3 * d) := by
  unfold laws_heldRowS.f
  have hl := mks_len d n
  exact held_go d k (mks n d) n 0 (by omega) (by omega) (by omega) hn hn2 (by omega) hk rfl
end Go.Proofs.Ytngeppmincgebaa.Pure
