/- Plain lemmas: groups written out, by the program and by the reference. -/
import Derived.Test.YtngeppmincgebaaPx0
import Derived.Test.YtngeppmincgebaaPx10
import Derived.Test.YtngeppmincgebaaPx7
import Derived.Test.YtngeppmincgebaaPx9
import Derived.Test.YtngeppmincgebaaFmt
namespace Go.Proofs.Ytngeppmincgebaa.Pure
open Go.RowKit Go.Proofs.Ytngeppmincgebaa.P Go.Proofs.YtngeppmincgebaaW.PrintWords Go.Proofs.YtngeppmincgebaaW.PrintLast

def inI (x : Int) : Prop := -9223372036854775808 ≤ x ∧ x ≤ 9223372036854775807
def okG (g : S81) : Prop := inI g.f0 ∧ inI g.f1 ∧ inI g.f2 ∧ inI g.f3 ∧ inI g.f4
def gTx (g : S81) : ByteArray := ((((((((fI g.f0 ++ (⟨#[58]⟩ : ByteArray)) ++ fI g.f1) ++ (⟨#[44]⟩ : ByteArray)) ++ fI g.f2) ++ (⟨#[44]⟩ : ByteArray)) ++ fI g.f3) ++ (⟨#[44]⟩ : ByteArray)) ++ fI g.f4)
theorem gTx_sz (g : S81) (h : okG g) : (gTx g).size ≤ 104 := by
  obtain ⟨h0, h1, h2, h3, h4⟩ := h
  have s0 := fI_sz g.f0 h0.1 h0.2
  have s1 := fI_sz g.f1 h1.1 h1.2
  have s2 := fI_sz g.f2 h2.1 h2.2
  have s3 := fI_sz g.f3 h3.1 h3.2
  have s4 := fI_sz g.f4 h4.1 h4.2
  simp only [gTx, ba_sz, ba_sz1]
  omega
theorem gTx_impl (g : S81) (h : okG g) (k : Nat) (hk : 20 ≤ k) : impl_groupText.f k g.f0 g.f1 g.f2 g.f3 g.f4 = some (gTx g) := by
  obtain ⟨h0, h1, h2, h3, h4⟩ := h
  have s0 := fI_sz g.f0 h0.1 h0.2
  have s1 := fI_sz g.f1 h1.1 h1.2
  have s2 := fI_sz g.f2 h2.1 h2.2
  have s3 := fI_sz g.f3 h3.1 h3.2
  have s4 := fI_sz g.f4 h4.1 h4.2
  unfold impl_groupText.f
  rw [fI_impl g.f0 h0.1 h0.2 k hk, fI_impl g.f1 h1.1 h1.2 k hk, fI_impl g.f2 h2.1 h2.2 k hk, fI_impl g.f3 h3.1 h3.2 k hk, fI_impl g.f4 h4.1 h4.2 k hk]
  simp only [Option.bind_some, ba_sz, ba_sz1]
  rw [if_pos (by omega), if_pos (by omega), if_pos (by omega), if_pos (by omega), if_pos (by omega), if_pos (by omega), if_pos (by omega), if_pos (by omega)]
  rfl
theorem gj_spec (l : List S81) (i : Int) (h0 : 0 ≤ i) (h1 : i < l.length) (h : okG (rd_T81 l i)) (acc : ByteArray) (ha : acc.size ≤ 9100000000000000000) (k : Nat) (hk : 20 ≤ k) : spec_FormatGroups.j1 (k + 1) l acc i = spec_FormatGroups.l0 k l (acc ++ gTx (rd_T81 l i)) (wrap64 (i + 1)) := by
  rw [spec_FormatGroups.j1, if_pos h0, if_pos h1]
  generalize rd_T81 l i = g at *
  obtain ⟨h0, h1, h2, h3, h4⟩ := h
  have s0 := fI_sz g.f0 h0.1 h0.2
  have s1 := fI_sz g.f1 h1.1 h1.2
  have s2 := fI_sz g.f2 h2.1 h2.2
  have s3 := fI_sz g.f3 h3.1 h3.2
  have s4 := fI_sz g.f4 h4.1 h4.2
  rw [fI_spec g.f0 h0.1 h0.2 k hk, fI_spec g.f1 h1.1 h1.2 k hk, fI_spec g.f2 h2.1 h2.2 k hk, fI_spec g.f3 h3.1 h3.2 k hk, fI_spec g.f4 h4.1 h4.2 k hk]
  simp only [Option.bind_some, ba_sz, ba_sz1]
  rw [if_pos (by omega), if_pos (by omega), if_pos (by omega), if_pos (by omega), if_pos (by omega), if_pos (by omega), if_pos (by omega), if_pos (by omega), if_pos (by omega)]
  simp only [gTx, ba_assoc]
theorem fG_spec_go (l : List S81) (hl : l.length ≤ 100000000) (h : ∀ g ∈ l, okG g) (d : Nat) : ∀ (k : Nat) (acc : ByteArray) (i : Int), 1 ≤ i → i ≤ l.length → acc.size + d * 105 ≤ 9000000000000000000 → (l.length : Int) - i = d → 2 * d + 30 < k →
    spec_FormatGroups.l0 k l acc i = some (acc ++ rst ⟨#[32]⟩ ((l.drop i.toNat).map gTx)) := by
  induction d with
  | zero =>
    intro k acc i h0 h1 ha hd hk
    obtain ⟨k, rfl⟩ : ∃ m, k = m + 1 := ⟨k - 1, by omega⟩
    rw [spec_FormatGroups.l0, if_neg (by omega), drop_end l i (by omega), List.map_nil, rst, ba_end]
  | succ d ih =>
    intro k acc i h0 h1 ha hd hk
    obtain ⟨k, rfl⟩ : ∃ m, k = m + 1 + 1 := ⟨k - 2, by omega⟩
    have hD : l.drop i.toNat = rd_T81 l i :: l.drop (i + 1).toNat := drop_getD l z81 i (by omega) (by omega)
    have hm : okG (rd_T81 l i) := h _ (getD_mem l z81 i (by omega) (by omega))
    have hz := gTx_sz _ hm
    rw [spec_FormatGroups.l0, if_pos (by omega), if_pos (by omega), if_pos (by omega), gj_spec l i (by omega) (by omega) hm _ (by rw [ba_sz, ba_sz1]; omega) k (by omega), wrap_succ (by omega) (n := l.length) (by omega) (by omega), ih k _ (i + 1) (by omega) (by omega) (by rw [ba_sz, ba_sz, ba_sz1]; omega) (by omega) (by omega), hD, List.map_cons, rst]
    simp only [ba_assoc]
theorem fG_spec (l : List S81) (hl : l.length ≤ 100000000) (h : ∀ g ∈ l, okG g) (k : Nat) (hk : 2 * l.length + 40 < k) : spec_FormatGroups.f k l = some (jnd ⟨#[32]⟩ (l.map gTx)) := by
  unfold spec_FormatGroups.f
  obtain ⟨k, rfl⟩ : ∃ m, k = m + 1 + 1 := ⟨k - 2, by omega⟩
  rw [spec_FormatGroups.l0]
  by_cases hz : l.length = 0
  · rw [if_neg (by omega), List.eq_nil_of_length_eq_zero hz]
    rfl
  · have hD : l.drop (0 : Int).toNat = rd_T81 l 0 :: l.drop (0 + 1 : Int).toNat := drop_getD l z81 0 (by omega) (by omega)
    have hm : okG (rd_T81 l 0) := h _ (getD_mem l z81 0 (by omega) (by omega))
    have hs := gTx_sz _ hm
    rw [if_pos (by omega), if_neg (by omega), gj_spec l 0 (by omega) (by omega) hm _ (by rw [ba_sz0]; omega) k (by omega), wrap_succ (by omega) (n := l.length) (by omega) (by omega), ba_nil, fG_spec_go l hl h (l.length - 1) k _ (0 + 1) (by omega) (by omega) (by omega) (by omega) (by omega)]
    rw [show l.drop (0 : Int).toNat = l from rfl] at hD
    conv => rhs; rw [hD, List.map_cons, jnd]
theorem fG_impl_go (l : List S81) (hl : l.length ≤ 100000000) (h : ∀ g ∈ l, okG g) (d : Nat) : ∀ (k : Nat) (acc : List ByteArray) (i : Int), 0 ≤ i → i ≤ l.length → acc = (l.take i.toNat).map gTx → (l.length : Int) - i = d → d + l.length + 30 < k →
    impl_FormatGroups.l0 k acc l (l.length : Int) i = some (jnd ⟨#[32]⟩ (l.map gTx)) := by
  induction d with
  | zero =>
    intro k acc i h0 h1 ha hd hk
    obtain ⟨k, rfl⟩ : ∃ m, k = m + 1 := ⟨k - 1, by omega⟩
    rw [List.take_of_length_le (by omega)] at ha
    rw [impl_FormatGroups.l0, if_neg (by omega), ha, joined_eq _ rfl _ (by rw [List.length_map]; omega) (by
      intro t ht
      obtain ⟨g, hg, rfl⟩ := List.mem_map.1 ht
      have := gTx_sz g (h g hg)
      omega) k (by rw [List.length_map]; omega)]
    rfl
  | succ d ih =>
    intro k acc i h0 h1 ha hd hk
    obtain ⟨k, rfl⟩ : ∃ m, k = m + 1 := ⟨k - 1, by omega⟩
    have hm : okG (rd_T81 l i) := h _ (getD_mem l z81 i (by omega) (by omega))
    have hal : acc.length = i.toNat := by
      rw [ha, List.length_map, List.length_take]
      omega
    rw [impl_FormatGroups.l0, if_pos (by omega), if_pos (by omega), if_pos (by omega), gTx_impl _ hm k (by omega)]
    simp only [Option.bind_some]
    rw [if_pos (by omega), wrap_succ (by omega) (n := l.length) (by omega) (by omega), ih k _ (i + 1) (by omega) (by omega) ?_ (by omega) (by omega)]
    have hi : i.toNat < l.length := by omega
    rw [ha, show (i + 1).toNat = i.toNat + 1 by omega, List.take_add_one, List.map_append, List.getElem?_eq_getElem hi]
    simp only [rd_T81, List.getD_eq_getElem?_getD, List.getElem?_eq_getElem hi]
    rfl
theorem fG_impl (l : List S81) (hl : l.length ≤ 100000000) (h : ∀ g ∈ l, okG g) (k : Nat) (hk : 2 * l.length + 40 < k) : impl_FormatGroups.f k l = some (jnd ⟨#[32]⟩ (l.map gTx)) := by
  unfold impl_FormatGroups.f
  exact fG_impl_go l hl h l.length k [] 0 (by omega) (by omega) rfl (by omega) (by omega)
end Go.Proofs.Ytngeppmincgebaa.Pure
