-- merged by pack.py out of ToRow ToRun ToSorter PureFnExactSorterMemory (words: printed by the kit's print.sh; what this claim does not use is left out)

import Derived.Test.YtngeppmincgebaaKFnExactSorterMemory1
import Derived.Test.YtngeppmincgebaaKFnExactSorterMemory2
import Derived.Test.YtngeppmincgebaaKFnExactSorterMemory3
import Derived.Test.YtngeppmincgebaaKFnExactSorterMemory4
import Derived.Test.YtngeppmincgebaaKFnExactSorterMemory5
import Derived.Test.YtngeppmincgebaaKFnExactSorterMemory7
section
namespace Go.Proofs.Ytngeppmincgebaa.Pure
open Go.RowKit Go.Proofs.Ytngeppmincgebaa.P Go.Proofs.YtngeppmincgebaaW.PrintWords Go.Proofs.YtngeppmincgebaaW.PrintLast
def toR (x : S77) : S75 := ⟨x.f0, x.f1, x.f2⟩
theorem szRowS_no (l : List S77) (n : Int) (h0 : 0 ≤ n) (h1 : n ≤ 1048576) (hl : l.length ≤ 9223372036854775807) (h : n < l.length) : laws_szRowS.f l n = some (-1) := by
 unfold laws_szRowS.f
 rw [if_pos (by unfold wrap64; omega)]
theorem szRowS_yes (l : List S77) (n : Int) (h0 : 0 ≤ n) (h1 : n ≤ 1048576) (h : (l.length : Int) ≤ n) : laws_szRowS.f l n = some (n - l.length) := by
 unfold laws_szRowS.f
 rw [if_neg (by unfold wrap64; omega)]
 congr 1
 unfold wrap64
 omega
theorem toRowS_go (l : List S77) (hl : l.length ≤ 1048576) (d : Nat) : ∀ (k : Nat) (acc : List S75) (i : Int), 0 ≤ i → i ≤ l.length → acc.length = l.length → acc.take i.toNat = (l.map toR).take i.toNat → (l.length : Int) - i = d → d < k →
  laws_toRowS.l0 k l acc i = some (l.map toR) := by
 induction d with
 | zero =>
  intro k acc i h0 h1 ha ht hd hk
  obtain ⟨k, rfl⟩ : ∃ m, k = m + 1 := ⟨k - 1, by omega⟩
  simp only [laws_toRowS.l0]
  rw [if_neg (by omega)]
  exact congrArg some (take_all acc _ i (by omega) (by rw [List.length_map]; exact ha) ht)
 | succ d ih =>
  intro k acc i h0 h1 ha ht hd hk
  obtain ⟨k, rfl⟩ : ∃ m, k = m + 1 := ⟨k - 1, by omega⟩
  simp only [laws_toRowS.l0]
  rw [if_pos (by omega), if_pos h0]
  simp only [laws_toRow.f, Option.bind_some]
  rw [if_pos (by omega), wrap_succ h0 (n := l.length) (by omega) (by omega)]
  exact ih k _ (i + 1) (by omega) (by omega) (by rw [List.length_set]; exact ha) (take_set_succ toR l acc z77 i h0 (by omega) ha ht) (by omega) (by omega)
theorem toRowS_eq (l : List S77) (hl : l.length ≤ 1048576) (k : Nat) (hk : l.length < k) : laws_toRowS.f k l = some (l.map toR) := by
 unfold laws_toRowS.f
 rw [if_pos (by omega), if_pos (by omega)]
 exact toRowS_go l hl l.length k _ 0 (by omega) (by omega) (by simp) rfl (by omega) hk
theorem eqRow_self (x : S75) : laws_eqRow.f x.f0 x.f1 x.f2 x.f0 x.f1 x.f2 = some true := by
 simp [laws_eqRow.f]
theorem eqRowS_go (l : List S75) (hl : l.length ≤ 9223372036854775807) (d : Nat) : ∀ (k : Nat) (i : Int), 0 ≤ i → i ≤ l.length → (l.length : Int) - i = d → d < k → laws_eqRowS.l0 k l l i = some true := by
 induction d with
 | zero =>
  intro k i h0 h1 hd hk
  obtain ⟨k, rfl⟩ : ∃ m, k = m + 1 := ⟨k - 1, by omega⟩
  simp only [laws_eqRowS.l0]
  rw [if_neg (by omega)]
 | succ d ih =>
  intro k i h0 h1 hd hk
  obtain ⟨k, rfl⟩ : ∃ m, k = m + 1 := ⟨k - 1, by omega⟩
  simp only [laws_eqRowS.l0]
  rw [if_pos (by omega), if_pos h0, if_pos (by omega), eqRow_self]
  simp only [Option.bind_some, if_true]
  rw [wrap_succ h0 (n := l.length) (by omega) (by omega)]
  exact ih k (i + 1) (by omega) (by omega) (by omega) (by omega)
theorem eqRowS_self (l : List S75) (hl : l.length ≤ 9223372036854775807) (k : Nat) (hk : l.length < k) : laws_eqRowS.f k l l = some true := by
 unfold laws_eqRowS.f
 rw [if_pos rfl]
 exact eqRowS_go l hl l.length k 0 (by omega) (by omega) (by omega) hk
end Go.Proofs.Ytngeppmincgebaa.Pure
end
section
namespace Go.Proofs.Ytngeppmincgebaa.Pure
open Go.RowKit Go.Proofs.Ytngeppmincgebaa.P Go.Proofs.YtngeppmincgebaaW.PrintWords Go.Proofs.YtngeppmincgebaaW.PrintLast
def toRn (x : S91) : S93 := ⟨x.f0.map toR⟩
def totN : List S91 → Int
 | [] => 0
 | x :: l => x.f0.length + totN l
theorem totN_bd (l : List S91) : 0 ≤ totN l := by
 induction l with
 | nil => simp [totN]
 | cons x l ih =>
  simp only [totN]
  omega
theorem totN_mem (l : List S91) (x : S91) (h : x ∈ l) : (x.f0.length : Int) ≤ totN l := by
 induction l with
 | nil => cases h
 | cons y l ih =>
  have := totN_bd l
  simp only [totN]
  rcases List.mem_cons.1 h with rfl | h
  ·omega
  ·have := ih h
   omega
theorem szRun_eq (l : List S77) (hl : l.length ≤ 9223372036854775807) (n : Int) (h0 : 0 ≤ n) (h1 : n ≤ 1048576) : laws_szRun.f l n = some (if (l.length : Int) ≤ n then n - l.length else -1) := by
 unfold laws_szRun.f
 by_cases h : (l.length : Int) ≤ n
 ·rw [szRowS_yes l n h0 h1 h, if_pos h]
  simp only [Option.bind_some]
  rw [if_neg (by omega)]
 ·rw [szRowS_no l n h0 h1 hl (by omega), if_neg h]
  rfl
theorem szRunS_go (l : List S91) (hl : l.length ≤ 9223372036854775807) (ho : ∀ x ∈ l, x.f0.length ≤ 9223372036854775807) (d : Nat) : ∀ (k : Nat) (n i : Int), 0 ≤ n → n ≤ 1048576 → 0 ≤ i → i ≤ l.length → (l.length : Int) - i = d → d < k →
  laws_szRunS.l0 k l n i = some (if totN (l.drop i.toNat) ≤ n then n - totN (l.drop i.toNat) else -1) := by
 induction d with
 | zero =>
  intro k n i hn0 hn1 h0 h1 hd hk
  obtain ⟨k, rfl⟩ : ∃ m, k = m + 1 := ⟨k - 1, by omega⟩
  simp only [laws_szRunS.l0]
  rw [if_neg (by omega), drop_end l i (by omega), show totN ([] : List S91) = 0 from rfl, if_pos hn0]
  simp
 | succ d ih =>
  intro k n i hn0 hn1 h0 h1 hd hk
  obtain ⟨k, rfl⟩ : ∃ m, k = m + 1 := ⟨k - 1, by omega⟩
  have hm := ho _ (getD_mem l z91 i h0 (by omega))
  simp only [laws_szRunS.l0]
  rw [if_pos (by omega), if_pos h0, drop_getD l z91 i h0 (by omega)]
  show ((laws_szRun.f (l.getD i.toNat z91).f0 n).bind _) = _
  have ht := totN_bd (l.drop (i + 1).toNat)
  rw [szRun_eq _ hm n hn0 hn1]
  rw [show ∀ (x : S91) y, totN (x :: y) = x.f0.length + totN y from fun _ _ => rfl]
  simp only [Option.bind_some]
  by_cases hx : ((l.getD i.toNat z91).f0.length : Int) ≤ n
  ·rw [if_pos hx, if_neg (by omega), wrap_succ h0 (n := l.length) (by omega) (by omega), ih k _ (i + 1) (by omega) (by omega) (by omega) (by omega) (by omega) (by omega)]
   split
   ·rw [if_pos (by omega)]
    congr 1
    omega
   ·rw [if_neg (by omega)]
  ·rw [if_neg hx, if_pos (by omega), if_neg (by omega)]
theorem szRunS_eq (l : List S91) (hl : l.length ≤ 9223372036854775807) (ho : ∀ x ∈ l, x.f0.length ≤ 9223372036854775807) (n : Int) (h0 : 0 ≤ n) (h1 : n ≤ 1048576) (k : Nat) (hk : l.length < k) :
  laws_szRunS.f k l n = some (if l.length + totN l ≤ n then n - l.length - totN l else -1) := by
 unfold laws_szRunS.f
 have ht := totN_bd l
 by_cases h : (l.length : Int) ≤ n
 ·rw [wrap_id (by omega) (by omega), if_neg (by omega), szRunS_go l hl ho l.length k _ 0 (by omega) (by omega) (by omega) (by omega) (by omega) hk]
  simp only [Int.toNat_zero, List.drop_zero]
  by_cases h2 : (l.length + totN l : Int) ≤ n
  ·rw [if_pos (by omega), if_pos h2]
  ·rw [if_neg (by omega), if_neg h2]
 ·rw [if_pos (by unfold wrap64; omega), if_neg (by omega)]
theorem toRunS_go (l : List S91) (hl : l.length ≤ 1048576) (ho : ∀ x ∈ l, x.f0.length ≤ 1048576) (d : Nat) : ∀ (k : Nat) (acc : List S93) (i : Int), 0 ≤ i → i ≤ l.length → acc.length = l.length → acc.take i.toNat = (l.map toRn).take i.toNat → (l.length : Int) - i = d → d + 1048577 < k →
  laws_toRunS.l0 k l acc i = some (l.map toRn) := by
 induction d with
 | zero =>
  intro k acc i h0 h1 ha ht hd hk
  obtain ⟨k, rfl⟩ : ∃ m, k = m + 1 := ⟨k - 1, by omega⟩
  simp only [laws_toRunS.l0]
  rw [if_neg (by omega)]
  exact congrArg some (take_all acc _ i (by omega) (by rw [List.length_map]; exact ha) ht)
 | succ d ih =>
  intro k acc i h0 h1 ha ht hd hk
  obtain ⟨k, rfl⟩ : ∃ m, k = m + 1 := ⟨k - 1, by omega⟩
  have hm := ho _ (getD_mem l z91 i h0 (by omega))
  simp only [laws_toRunS.l0]
  rw [if_pos (by omega), if_pos h0]
  simp only [laws_toRun.f]
  have ht1 : laws_toRowS.f k (rd_T91 l i).f0 = some ((rd_T91 l i).f0.map toR) := toRowS_eq _ hm k (by show (l.getD i.toNat z91).f0.length < k; omega)
  rw [ht1]
  simp only [Option.bind_some]
  rw [if_pos (by omega), wrap_succ h0 (n := l.length) (by omega) (by omega)]
  exact ih k _ (i + 1) (by omega) (by omega) (by rw [List.length_set]; exact ha) (take_set_succ toRn l acc z91 i h0 (by omega) ha ht) (by omega) (by omega)
theorem toRunS_eq (l : List S91) (hl : l.length ≤ 1048576) (ho : ∀ x ∈ l, x.f0.length ≤ 1048576) (k : Nat) (hk : l.length + 1048577 < k) : laws_toRunS.f k l = some (l.map toRn) := by
 unfold laws_toRunS.f
 rw [if_pos (by omega), if_pos (by omega)]
 exact toRunS_go l hl ho l.length k _ 0 (by omega) (by omega) (by simp) rfl (by omega) hk
theorem eqRunS_go (l : List S93) (hl : l.length ≤ 1048576) (ho : ∀ x ∈ l, x.f0.length ≤ 1048576) (d : Nat) : ∀ (k : Nat) (i : Int), 0 ≤ i → i ≤ l.length → (l.length : Int) - i = d → d + 1048577 < k → laws_eqRunS.l0 k l l i = some true := by
 induction d with
 | zero =>
  intro k i h0 h1 hd hk
  obtain ⟨k, rfl⟩ : ∃ m, k = m + 1 := ⟨k - 1, by omega⟩
  simp only [laws_eqRunS.l0]
  rw [if_neg (by omega)]
 | succ d ih =>
  intro k i h0 h1 hd hk
  obtain ⟨k, rfl⟩ : ∃ m, k = m + 1 := ⟨k - 1, by omega⟩
  have hm := ho _ (getD_mem l z93 i h0 (by omega))
  simp only [laws_eqRunS.l0]
  rw [if_pos (by omega), if_pos h0, if_pos (by omega)]
  simp only [laws_eqRun.f]
  have ht1 : laws_eqRowS.f k (rd_T93 l i).f0 (rd_T93 l i).f0 = some true := eqRowS_self _ (by show (l.getD i.toNat z93).f0.length ≤ _; omega) k (by show (l.getD i.toNat z93).f0.length < k; omega)
  rw [ht1]
  simp only [Option.bind_some, if_true]
  rw [wrap_succ h0 (n := l.length) (by omega) (by omega)]
  exact ih k (i + 1) (by omega) (by omega) (by omega) (by omega)
theorem eqRunS_self (l : List S93) (hl : l.length ≤ 1048576) (ho : ∀ x ∈ l, x.f0.length ≤ 1048576) (k : Nat) (hk : l.length + 1048577 < k) : laws_eqRunS.f k l l = some true := by
 unfold laws_eqRunS.f
 rw [if_pos rfl]
 exact eqRunS_go l hl ho l.length k 0 (by omega) (by omega) (by omega) hk
theorem toRn_small (l : List S91) (ho : ∀ x ∈ l, x.f0.length ≤ 1048576) : ∀ x ∈ l.map toRn, x.f0.length ≤ 1048576 := by
 intro x hx
 obtain ⟨y, hy, rfl⟩ := List.mem_map.1 hx
 have := ho y hy
 simpa [toRn] using this
end Go.Proofs.Ytngeppmincgebaa.Pure
end
section
namespace Go.Proofs.Ytngeppmincgebaa.Pure
open Go.RowKit Go.Proofs.Ytngeppmincgebaa.P Go.Proofs.YtngeppmincgebaaW.PrintWords Go.Proofs.YtngeppmincgebaaW.PrintLast
def szT (l0 l2 l3 l4 : List S77) (l5 : List S91) : Int := l0.length + l2.length + l3.length + l4.length + (l5.length + totN l5)
theorem szSorter_eq (l0 l2 l3 l4 : List S77) (l5 : List S91) (a1 a6 a7 a8 a9 n : Int) (h0 : l0.length ≤ 9223372036854775807) (h2 : l2.length ≤ 9223372036854775807) (h3 : l3.length ≤ 9223372036854775807) (h4 : l4.length ≤ 9223372036854775807) (h5 : l5.length ≤ 9223372036854775807) (ho : ∀ x ∈ l5, x.f0.length ≤ 9223372036854775807) (hn : 0 ≤ n) (hn2 : n ≤ 1048576) (k : Nat) (hk : l5.length < k) :
  laws_szSorter.f k l0 a1 l2 l3 l4 l5 a6 a7 a8 a9 n = some (if szT l0 l2 l3 l4 l5 ≤ n then n - szT l0 l2 l3 l4 l5 else -1) := by
 have ht := totN_bd l5
 unfold laws_szSorter.f szT
 by_cases b0 : n < l0.length
 ·rw [szRowS_no l0 n hn hn2 h0 b0, if_neg (by omega)]
  rfl
 rw [szRowS_yes l0 n hn hn2 (by omega)]
 simp only [Option.bind_some]
 rw [if_neg (by omega)]
 by_cases b2 : n - l0.length < l2.length
 ·rw [szRowS_no l2 _ (by omega) (by omega) h2 b2, if_neg (by omega)]
  rfl
 rw [szRowS_yes l2 _ (by omega) (by omega) (by omega)]
 simp only [Option.bind_some]
 rw [if_neg (by omega)]
 by_cases b3 : n - l0.length - l2.length < l3.length
 ·rw [szRowS_no l3 _ (by omega) (by omega) h3 b3, if_neg (by omega)]
  rfl
 rw [szRowS_yes l3 _ (by omega) (by omega) (by omega)]
 simp only [Option.bind_some]
 rw [if_neg (by omega)]
 by_cases b4 : n - l0.length - l2.length - l3.length < l4.length
 ·rw [szRowS_no l4 _ (by omega) (by omega) h4 b4, if_neg (by omega)]
  rfl
 rw [szRowS_yes l4 _ (by omega) (by omega) (by omega)]
 simp only [Option.bind_some]
 rw [if_neg (by omega), szRunS_eq l5 h5 ho _ (by omega) (by omega) k hk]
 simp only [Option.bind_some]
 by_cases b5 : (l5.length + totN l5 : Int) ≤ n - l0.length - l2.length - l3.length - l4.length
 ·rw [if_pos b5, if_neg (by omega), if_pos (by omega)]
  congr 1
  omega
 ·rw [if_neg b5, if_pos (by omega), if_neg (by omega)]
structure Small (l0 l2 l3 l4 : List S75) (l5 : List S93) : Prop where
 h0 : l0.length ≤ 1048576
 h2 : l2.length ≤ 1048576
 h3 : l3.length ≤ 1048576
 h4 : l4.length ≤ 1048576
 h5 : l5.length ≤ 1048576
 ho : ∀ x ∈ l5, x.f0.length ≤ 1048576
theorem szT_small (l0 l2 l3 l4 : List S77) (l5 : List S91) (h : szT l0 l2 l3 l4 l5 ≤ 1048576) : Small (l0.map toR) (l2.map toR) (l3.map toR) (l4.map toR) (l5.map toRn) := by
 have ht := totN_bd l5
 unfold szT at h
 refine ⟨by rw [List.length_map]; omega, by rw [List.length_map]; omega, by rw [List.length_map]; omega, by rw [List.length_map]; omega, by rw [List.length_map]; omega, toRn_small l5 (fun x hx => ?_)⟩
 have := totN_mem l5 x hx
 omega
theorem toSorter_eq (l0 l2 l3 l4 : List S77) (l5 : List S91) (a1 a6 a7 a8 a9 : Int) (h : szT l0 l2 l3 l4 l5 ≤ 1048576) (k : Nat) (hk : 2097153 < k) :
  laws_toSorter.f k l0 a1 l2 l3 l4 l5 a6 a7 a8 a9 = some (l0.map toR, a1, l2.map toR, l3.map toR, l4.map toR, l5.map toRn, a6, a7, a8, a9) := by
 have ht := totN_bd l5
 have hs : ∀ x ∈ l5, x.f0.length ≤ 1048576 := fun x hx => by
  have := totN_mem l5 x hx
  unfold szT at h
  omega
 unfold szT at h
 unfold laws_toSorter.f
 rw [toRowS_eq l0 (by omega) k (by omega), toRowS_eq l2 (by omega) k (by omega), toRowS_eq l3 (by omega) k (by omega), toRowS_eq l4 (by omega) k (by omega), toRunS_eq l5 (by omega) hs k (by omega)]
 rfl
theorem eqSorter_self (l0 l2 l3 l4 : List S75) (l5 : List S93) (a1 a6 a7 a8 a9 : Int) (h : Small l0 l2 l3 l4 l5) (k : Nat) (hk : 2097153 < k) :
  laws_eqSorter.f k l0 a1 l2 l3 l4 l5 a6 a7 a8 a9 l0 a1 l2 l3 l4 l5 a6 a7 a8 a9 = some true := by
 obtain ⟨h0, h2, h3, h4, h5, ho⟩ := h
 unfold laws_eqSorter.f
 rw [eqRowS_self l0 (by omega) k (by omega), eqRowS_self l2 (by omega) k (by omega), eqRowS_self l3 (by omega) k (by omega), eqRowS_self l4 (by omega) k (by omega), eqRunS_self l5 (by omega) ho k (by omega)]
 simp only [Option.bind_some, if_true]
end Go.Proofs.Ytngeppmincgebaa.Pure
end
section
namespace Go.Proofs.Ytngeppmincgebaa.Pure
open Go.RowKit Go.Proofs.Ytngeppmincgebaa.P Go.Proofs.Ytngeppmincgebaa.StFnExactSorterMemory Go.Proofs.YtngeppmincgebaaW.PrintWords Go.Proofs.YtngeppmincgebaaW.PrintLast Go.Proofs.Ytngeppmincgebaa.Opn
theorem FnExactSorterMemory : StFnExactSorterMemory.Pure := by
 intro x h
 obtain ⟨g0, _, g2, g3, g4, g5, _, _, _, _⟩ := h
 obtain ⟨m, hm⟩ : ∃ m : Nat, m = x.f5.length + 10000000 := ⟨_, rfl⟩
 have s0 := szSorter_eq x.f0 x.f2 x.f3 x.f4 x.f5 x.f1 x.f6 x.f7 x.f8 x.f9 1048576 g0.1 g2.1 g3.1 g4.1 g5.1 (fun y hy => (g5.2 y hy).1) (by omega) (by omega) m (by omega)
 refine ⟨m, ?_⟩
 unfold laws_FnExactSorterMemory.f
 rw [s0]
 by_cases b : szT x.f0 x.f2 x.f3 x.f4 x.f5 ≤ 1048576
 ·have sm := szT_small x.f0 x.f2 x.f3 x.f4 x.f5 b
  have t0 := toSorter_eq x.f0 x.f2 x.f3 x.f4 x.f5 x.f1 x.f6 x.f7 x.f8 x.f9 b m (by omega)
  have e0 := eqSorter_self _ _ _ _ _ x.f1 x.f6 x.f7 x.f8 x.f9 sm m (by omega)
  obtain ⟨q0, q2, q3, q4, q5, qo⟩ := sm
  have a0 := sMem_spec (x.f0.map toR) (x.f2.map toR) (x.f3.map toR) (x.f4.map toR) (x.f5.map toRn) x.f1 x.f6 x.f7 x.f8 x.f9 (by omega) (by omega) m (by omega) (by omega) (by omega)
  have a1 := sMem_impl (x.f0.map toR) (x.f2.map toR) (x.f3.map toR) (x.f4.map toR) (x.f5.map toRn) x.f1 x.f6 x.f7 x.f8 x.f9 (by omega) (by omega) m (by omega) (by omega) (by omega)
  rw [if_pos b]
  simp only [Option.bind_some, t0, a0, a1, e0, if_true]
  rw [if_neg (by omega)]
 ·rw [if_neg b]
  rfl
end Go.Proofs.Ytngeppmincgebaa.Pure
end
