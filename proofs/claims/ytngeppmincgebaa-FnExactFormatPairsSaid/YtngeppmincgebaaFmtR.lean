/- Plain lemmas: rows, pairs and runs written out, by the program and by the reference. -/
import Derived.Test.YtngeppmincgebaaPx0
import Derived.Test.YtngeppmincgebaaPx22
import Derived.Test.YtngeppmincgebaaPx23
import Derived.Test.YtngeppmincgebaaPx24
import Derived.Test.YtngeppmincgebaaFmt
import Derived.Test.YtngeppmincgebaaRow
import Derived.Test.YtngeppmincgebaaSrt
namespace Go.Proofs.Ytngeppmincgebaa.Pure
open Go.RowKit Go.Proofs.Ytngeppmincgebaa.P Go.Proofs.YtngeppmincgebaaW.PrintWords Go.Proofs.YtngeppmincgebaaW.PrintLast

def rTx (x : S75) : ByteArray := if vRow x = true then ((((fI x.f0 ++ (⟨#[46]⟩ : ByteArray)) ++ fI x.f1) ++ (⟨#[46]⟩ : ByteArray)) ++ fI x.f2) else ⟨#[]⟩
theorem rTx_sz (x : S75) : (rTx x).size ≤ 62 := by
  unfold rTx
  split
  · have hv := (vRow_iff x).1 ‹_›
    have s0 := fI_sz x.f0 (by omega) (by omega)
    have s1 := fI_sz x.f1 (by omega) (by omega)
    have s2 := fI_sz x.f2 (by omega) (by omega)
    simp only [ba_sz, ba_sz1]
    omega
  · rw [ba_sz0]
    omega
theorem rTx_impl (x : S75) (k : Nat) (hk : 20 ≤ k) : impl_FormatRow.f k x.f0 x.f1 x.f2 = some (rTx x) := by
  unfold impl_FormatRow.f rTx
  rw [vRow_impl]
  simp only [Option.bind_some]
  split
  · have hv := (vRow_iff x).1 ‹_›
    have s0 := fI_sz x.f0 (by omega) (by omega)
    have s1 := fI_sz x.f1 (by omega) (by omega)
    have s2 := fI_sz x.f2 (by omega) (by omega)
    rw [fI_impl x.f0 (by omega) (by omega) k hk, fI_impl x.f1 (by omega) (by omega) k hk, fI_impl x.f2 (by omega) (by omega) k hk]
    simp only [Option.bind_some, ba_sz, ba_sz1]
    rw [if_pos (by omega), if_pos (by omega), if_pos (by omega), if_pos (by omega)]
  · rfl
theorem rTx_spec (x : S75) (k : Nat) (hk : 20 ≤ k) : spec_FormatRow.f k x.f0 x.f1 x.f2 = some (rTx x) := by
  unfold spec_FormatRow.f rTx
  rw [vRow_spec]
  simp only [Option.bind_some]
  split
  · have hv := (vRow_iff x).1 ‹_›
    have s0 := fI_sz x.f0 (by omega) (by omega)
    have s1 := fI_sz x.f1 (by omega) (by omega)
    have s2 := fI_sz x.f2 (by omega) (by omega)
    rw [fI_spec x.f0 (by omega) (by omega) k hk, fI_spec x.f1 (by omega) (by omega) k hk, fI_spec x.f2 (by omega) (by omega) k hk]
    simp only [Option.bind_some, ba_sz, ba_sz1]
    rw [if_pos (by omega), if_pos (by omega), if_pos (by omega), if_pos (by omega)]
  · rfl
theorem take_map_snoc {α β : Type} (f : α → β) (l : List α) (z : α) (acc : List β) (i : Int) (h0 : 0 ≤ i) (h : i < (l.length : Int)) (ha : acc = (l.take i.toNat).map f) : acc ++ [f (l.getD i.toNat z)] = (l.take (i + 1).toNat).map f := by
  have hi : i.toNat < l.length := by omega
  rw [ha, show (i + 1).toNat = i.toNat + 1 by omega, List.take_add_one, List.map_append, List.getElem?_eq_getElem hi, List.getD_eq_getElem?_getD, List.getElem?_eq_getElem hi]
  rfl
/- pairs -/
def pTx (p : S98) : ByteArray := if p.f2 = true then rTx p.f0 ++ ((⟨#[45]⟩ : ByteArray) ++ rTx p.f1) else rTx p.f0
theorem pTx_sz (p : S98) : (pTx p).size ≤ 125 := by
  have s0 := rTx_sz p.f0
  have s1 := rTx_sz p.f1
  unfold pTx
  split
  · simp only [ba_sz, ba_sz1]
    omega
  · omega
theorem pj_spec (l : List S98) (i : Int) (h0 : 0 ≤ i) (h1 : i < l.length) (acc : ByteArray) (ha : acc.size ≤ 9100000000000000000) (k : Nat) (hk : 20 ≤ k) : spec_FormatPairs.j1 (k + 1) l acc i = spec_FormatPairs.l0 k l (acc ++ pTx (rd_T98 l i)) (wrap64 (i + 1)) := by
  rw [spec_FormatPairs.j1, if_pos h0, if_pos h1]
  generalize rd_T98 l i = p at *
  have s0 := rTx_sz p.f0
  have s1 := rTx_sz p.f1
  rw [rTx_spec p.f0 k hk, rTx_spec p.f1 k hk]
  simp only [Option.bind_some, ba_sz, ba_sz1]
  rw [if_pos (show acc.size + (rTx p.f0).size ≤ 9223372036854775807 by omega)]
  unfold pTx
  by_cases h : p.f2 = true
  · rw [if_pos h, if_pos h, if_pos (show acc.size + (rTx p.f0).size + 1 ≤ 9223372036854775807 by omega), if_pos (show acc.size + (rTx p.f0).size + 1 + (rTx p.f1).size ≤ 9223372036854775807 by omega)]
    simp only [ba_assoc]
  · rw [if_neg h, if_neg h]
theorem fP_spec_go (l : List S98) (hl : l.length ≤ 100000000) (d : Nat) : ∀ (k : Nat) (acc : ByteArray) (i : Int), 1 ≤ i → i ≤ l.length → acc.size + d * 126 ≤ 9000000000000000000 → (l.length : Int) - i = d → 2 * d + 30 < k →
    spec_FormatPairs.l0 k l acc i = some (acc ++ rst ⟨#[32]⟩ ((l.drop i.toNat).map pTx)) := by
  induction d with
  | zero =>
    intro k acc i h0 h1 ha hd hk
    obtain ⟨k, rfl⟩ : ∃ m, k = m + 1 := ⟨k - 1, by omega⟩
    rw [spec_FormatPairs.l0, if_neg (by omega), drop_end l i (by omega), List.map_nil, rst, ba_end]
  | succ d ih =>
    intro k acc i h0 h1 ha hd hk
    obtain ⟨k, rfl⟩ : ∃ m, k = m + 1 + 1 := ⟨k - 2, by omega⟩
    have hD : l.drop i.toNat = rd_T98 l i :: l.drop (i + 1).toNat := drop_getD l z98 i (by omega) (by omega)
    have hz := pTx_sz (rd_T98 l i)
    rw [spec_FormatPairs.l0, if_pos (by omega), if_pos (by omega), if_pos (by omega), pj_spec l i (by omega) (by omega) _ (by rw [ba_sz, ba_sz1]; omega) k (by omega), wrap_succ (by omega) (n := l.length) (by omega) (by omega), ih k _ (i + 1) (by omega) (by omega) (by rw [ba_sz, ba_sz, ba_sz1]; omega) (by omega) (by omega), hD, List.map_cons, rst]
    simp only [ba_assoc]
theorem fP_spec (l : List S98) (hl : l.length ≤ 100000000) (k : Nat) (hk : 2 * l.length + 40 < k) : spec_FormatPairs.f k l = some (jnd ⟨#[32]⟩ (l.map pTx)) := by
  unfold spec_FormatPairs.f
  obtain ⟨k, rfl⟩ : ∃ m, k = m + 1 + 1 := ⟨k - 2, by omega⟩
  rw [spec_FormatPairs.l0]
  by_cases hz : l.length = 0
  · rw [if_neg (by omega), List.eq_nil_of_length_eq_zero hz]
    rfl
  · have hD : l.drop (0 : Int).toNat = rd_T98 l 0 :: l.drop (0 + 1 : Int).toNat := drop_getD l z98 0 (by omega) (by omega)
    have hs := pTx_sz (rd_T98 l 0)
    rw [if_pos (by omega), if_neg (by omega), pj_spec l 0 (by omega) (by omega) _ (by rw [ba_sz0]; omega) k (by omega), wrap_succ (by omega) (n := l.length) (by omega) (by omega), ba_nil, fP_spec_go l hl (l.length - 1) k _ (0 + 1) (by omega) (by omega) (by omega) (by omega) (by omega)]
    rw [show l.drop (0 : Int).toNat = l from rfl] at hD
    conv => rhs; rw [hD, List.map_cons, jnd]
theorem fP_impl_go (l : List S98) (hl : l.length ≤ 100000000) (d : Nat) : ∀ (k : Nat) (acc : List ByteArray) (i : Int), 0 ≤ i → i ≤ l.length → acc = (l.take i.toNat).map pTx → (l.length : Int) - i = d → d + l.length + 30 < k →
    impl_FormatPairs.l0 k acc l (l.length : Int) i = some (jnd ⟨#[32]⟩ (l.map pTx)) := by
  induction d with
  | zero =>
    intro k acc i h0 h1 ha hd hk
    obtain ⟨k, rfl⟩ : ∃ m, k = m + 1 := ⟨k - 1, by omega⟩
    rw [List.take_of_length_le (by omega)] at ha
    rw [impl_FormatPairs.l0, if_neg (by omega), ha, joined_eq _ rfl _ (by rw [List.length_map]; omega) (by
      intro t ht
      obtain ⟨g, hg, rfl⟩ := List.mem_map.1 ht
      have := pTx_sz g
      omega) k (by rw [List.length_map]; omega)]
    rfl
  | succ d ih =>
    intro k acc i h0 h1 ha hd hk
    obtain ⟨k, rfl⟩ : ∃ m, k = m + 1 := ⟨k - 1, by omega⟩
    have hal : acc.length = i.toNat := by
      rw [ha, List.length_map, List.length_take]
      omega
    have hT : acc ++ [pTx (rd_T98 l i)] = (l.take (i + 1).toNat).map pTx := take_map_snoc pTx l z98 acc i h0 (by omega) ha
    rw [impl_FormatPairs.l0, if_pos (by omega), if_pos (by omega), if_pos (by omega)]
    generalize rd_T98 l i = p at *
    have s0 := rTx_sz p.f0
    have s1 := rTx_sz p.f1
    rw [rTx_impl p.f0 k (by omega), rTx_impl p.f1 k (by omega)]
    simp only [Option.bind_some, ba_sz, ba_sz1]
    rw [if_pos (show 1 + (rTx p.f1).size ≤ 9223372036854775807 by omega), if_pos (show (rTx p.f0).size + (1 + (rTx p.f1).size) ≤ 9223372036854775807 by omega), if_pos (show acc.length < 8796093022208 by omega), wrap_succ (by omega) (n := l.length) (by omega) (by omega)]
    unfold pTx at hT
    by_cases h : p.f2 = true
    · rw [if_pos h] at hT ⊢
      exact ih k _ (i + 1) (by omega) (by omega) hT (by omega) (by omega)
    · rw [if_neg h] at hT ⊢
      rw [if_pos (show acc.length < 8796093022208 by omega)]
      exact ih k _ (i + 1) (by omega) (by omega) hT (by omega) (by omega)
theorem fP_impl (l : List S98) (hl : l.length ≤ 100000000) (k : Nat) (hk : 2 * l.length + 40 < k) : impl_FormatPairs.f k l = some (jnd ⟨#[32]⟩ (l.map pTx)) := by
  unfold impl_FormatPairs.f
  exact fP_impl_go l hl l.length k [] 0 (by omega) (by omega) rfl (by omega) (by omega)
end Go.Proofs.Ytngeppmincgebaa.Pure
