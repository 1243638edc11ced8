/- Plain lemmas: the law's own marks on a slice of pairs, and the look whether they are held. -/
import Derived.Test.YtngeppmincgebaaPx0
import Derived.Test.YtngeppmincgebaaPx36
import Derived.Test.YtngeppmincgebaaPx37
import Derived.Test.YtngeppmincgebaaBase
namespace Go.Proofs.Ytngeppmincgebaa.Pure
open Go.RowKit Go.Proofs.Ytngeppmincgebaa.P Go.Proofs.YtngeppmincgebaaW.PrintWords Go.Proofs.YtngeppmincgebaaW.PrintLast

def mkP (n : Int) : S98 := ⟨⟨n, n + 1, n + 2⟩, ⟨n + 3, n + 4, n + 5⟩, Int.tmod (n + 6) 3 == 0⟩
def mksP (n : Int) : Nat → List S98
  | 0 => []
  | d + 1 => mkP n :: mksP (n + 7) d
theorem mksP_len (d : Nat) : ∀ n, (mksP n d).length = d := by
  induction d with
  | zero => intro n; rfl
  | succ d ih => intro n; simp only [mksP, List.length_cons, ih]
theorem rdP_set (l : List S98) (i : Int) (x : S98) (h0 : 0 ≤ i) (h : i < (l.length : Int)) : rd_T98 (l.set i.toNat x) i = x := by
  have hi : i.toNat < l.length := by omega
  unfold rd_T98
  rw [List.getD_eq_getElem?_getD, List.getElem?_set_self hi]
  rfl
set_option maxHeartbeats 1000000 in
theorem markP_go (d : Nat) : ∀ (k : Nat) (l : List S98) (n i : Int), 0 ≤ i → i ≤ l.length → l.length ≤ 10000000000000 → 0 ≤ n → n + 7 * d ≤ 9000000000000000000 → (l.length : Int) - i = d → d < k →
    laws_markPairS.l0 k l n i = some (n + 7 * d, l.take i.toNat ++ mksP n d) := by
  induction d with
  | zero =>
    intro k l n i h0 h1 hl hn hn2 hd hk
    obtain ⟨k, rfl⟩ : ∃ m, k = m + 1 := ⟨k - 1, by omega⟩
    simp only [laws_markPairS.l0]
    rw [if_neg (by omega), List.take_of_length_le (by omega)]
    simp [mksP]
  | succ d ih =>
    intro k l n i h0 h1 hl hn hn2 hd hk
    obtain ⟨k, rfl⟩ : ∃ m, k = m + 1 := ⟨k - 1, by omega⟩
    simp only [laws_markPairS.l0]
    rw [if_pos (by omega), if_pos h0]
    simp only [Option.bind_some]
    rw [wrap_succ h0 (n := l.length) (by omega) (by omega), wrap_id (x := n + 1) (by omega) (by omega), wrap_id (x := n + 1 + 1) (by omega) (by omega), wrap_id (x := n + 1 + 1 + 1) (by omega) (by omega), wrap_id (x := n + 1 + 1 + 1 + 1) (by omega) (by omega), wrap_id (x := n + 1 + 1 + 1 + 1 + 1) (by omega) (by omega), wrap_id (x := n + 1 + 1 + 1 + 1 + 1 + 1) (by omega) (by omega), wrap_id (x := n + 1 + 1 + 1 + 1 + 1 + 1 + 1) (by omega) (by omega)]
    have e0 : ∀ x, rd_T98 (l.set i.toNat x) i = x := fun x => rdP_set l i x h0 (by omega)
    simp only [e0, List.set_set]
    rw [show n + 1 + 1 + 1 + 1 + 1 + 1 + 1 = n + 7 by omega, show n + 1 + 1 + 1 + 1 + 1 + 1 = n + 6 by omega, show n + 1 + 1 + 1 + 1 + 1 = n + 5 by omega, show n + 1 + 1 + 1 + 1 = n + 4 by omega, show n + 1 + 1 + 1 = n + 3 by omega, show n + 1 + 1 = n + 2 by omega]
    show laws_markPairS.l0 k (l.set i.toNat (mkP n)) (n + 7) (i + 1) = _
    rw [ih k _ (n + 7) (i + 1) (by omega) (by rw [List.length_set]; omega) (by rw [List.length_set]; omega) (by omega) (by omega) (by rw [List.length_set]; omega) (by omega)]
    have hi : i.toNat < l.length := by omega
    have e : List.take (i + 1).toNat (l.set i.toNat (mkP n)) = l.take i.toNat ++ [mkP n] := by
      rw [show (i + 1).toNat = i.toNat + 1 by omega, List.take_add_one, List.take_set_of_le (by omega), List.getElem?_set_self hi]
      rfl
    rw [e]
    simp only [mksP]
    rw [List.append_assoc]
    congr 2
    omega
theorem markP_eq (l : List S98) (hl : l.length ≤ 10000000000000) (n : Int) (hn : 0 ≤ n) (hn2 : n + 7 * l.length ≤ 9000000000000000000) (k : Nat) (hk : l.length < k) :
    laws_markPairS.f k l n = some (n + 7 * l.length, mksP n l.length) := by
  unfold laws_markPairS.f
  rw [markP_go l.length k l n 0 (by omega) (by omega) hl hn hn2 (by omega) hk]
  simp
set_option maxHeartbeats 1000000 in
theorem heldP_go (d : Nat) : ∀ (k : Nat) (l : List S98) (n i : Int), 0 ≤ i → i ≤ l.length → l.length ≤ 10000000000000 → 0 ≤ n → n + 7 * d ≤ 9000000000000000000 → (l.length : Int) - i = d → d < k →
    l.drop i.toNat = mksP n d → laws_heldPairS.l0 k l n i = some (n + 7 * d) := by
  induction d with
  | zero =>
    intro k l n i h0 h1 hl hn hn2 hd hk _
    obtain ⟨k, rfl⟩ : ∃ m, k = m + 1 := ⟨k - 1, by omega⟩
    simp only [laws_heldPairS.l0]
    rw [if_neg (by omega)]
    simp
  | succ d ih =>
    intro k l n i h0 h1 hl hn hn2 hd hk hm
    obtain ⟨k, rfl⟩ : ∃ m, k = m + 1 := ⟨k - 1, by omega⟩
    rw [drop_getD l z98 i h0 (by omega)] at hm
    simp only [mksP] at hm
    obtain ⟨e1, e2⟩ := List.cons.inj hm
    have e3 : rd_T98 l i = mkP n := e1
    simp only [laws_heldPairS.l0]
    rw [wrap_succ h0 (n := l.length) (by omega) (by omega), wrap_id (x := n + 1) (by omega) (by omega), wrap_id (x := n + 1 + 1) (by omega) (by omega), wrap_id (x := n + 1 + 1 + 1) (by omega) (by omega), wrap_id (x := n + 1 + 1 + 1 + 1) (by omega) (by omega), wrap_id (x := n + 1 + 1 + 1 + 1 + 1) (by omega) (by omega), wrap_id (x := n + 1 + 1 + 1 + 1 + 1 + 1) (by omega) (by omega), wrap_id (x := n + 1 + 1 + 1 + 1 + 1 + 1 + 1) (by omega) (by omega)]
    rw [show n + 1 + 1 + 1 + 1 + 1 + 1 + 1 = n + 7 by omega, show n + 1 + 1 + 1 + 1 + 1 + 1 = n + 6 by omega, show n + 1 + 1 + 1 + 1 + 1 = n + 5 by omega, show n + 1 + 1 + 1 + 1 = n + 4 by omega, show n + 1 + 1 + 1 = n + 3 by omega, show n + 1 + 1 = n + 2 by omega]
    rw [if_pos (by omega), if_pos h0, if_pos (by rw [e3]; rfl), if_pos (by rw [e3]; rfl), if_pos (by rw [e3]; rfl), if_pos (by rw [e3]; rfl), if_pos (by rw [e3]; rfl), if_pos (by rw [e3]; rfl), if_neg (by rw [e3]; simp [mkP])]
    rw [ih k l (n + 7) (i + 1) (by omega) (by omega) hl (by omega) (by omega) (by omega) (by omega) e2]
    congr 1
    omega
theorem heldP_eq (n : Int) (d : Nat) (hd : d ≤ 10000000000000) (hn : 0 ≤ n) (hn2 : n + 7 * d ≤ 9000000000000000000) (k : Nat) (hk : d < k) : laws_heldPairS.f k (mksP n d) n = some (n + 7 * d) := by
  unfold laws_heldPairS.f
  have hl := mksP_len d n
  exact heldP_go d k (mksP n d) n 0 (by omega) (by omega) (by omega) hn hn2 (by omega) hk rfl
end Go.Proofs.Ytngeppmincgebaa.Pure
