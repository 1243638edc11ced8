/- Plain lemmas: the law's own copies and comparisons of slices of runs. -/
import Derived.Test.YtngeppmincgebaaPx0
import Derived.Test.YtngeppmincgebaaPx19
import Derived.Test.YtngeppmincgebaaPx20
import Derived.Test.YtngeppmincgebaaPx21
import Derived.Test.YtngeppmincgebaaPx3
import Derived.Test.YtngeppmincgebaaPx4
import Derived.Test.YtngeppmincgebaaToRow
namespace Go.Proofs.Ytngeppmincgebaa.Pure
open Go.RowKit Go.Proofs.Ytngeppmincgebaa.P Go.Proofs.YtngeppmincgebaaW.PrintWords Go.Proofs.YtngeppmincgebaaW.PrintLast

def toRn (x : S91) : S93 := ⟨x.f0.map toR⟩
def totN : List S91 → Int
  | [] => 0
  | x :: l => x.f0.length + totN l
theorem totN_bd (l : List S91) : 0 ≤ totN l := by
  induction l with
  | nil => simp [totN]
  | cons x l ih =>
    simp only [totN]
    omega
theorem totN_mem (l : List S91) (x : S91) (h : x ∈ l) : (x.f0.length : Int) ≤ totN l := by
  induction l with
  | nil => cases h
  | cons y l ih =>
    have := totN_bd l
    simp only [totN]
    rcases List.mem_cons.1 h with rfl | h
    · omega
    · have := ih h
      omega
theorem szRun_eq (l : List S77) (hl : l.length ≤ 9223372036854775807) (n : Int) (h0 : 0 ≤ n) (h1 : n ≤ 1048576) : laws_szRun.f l n = some (if (l.length : Int) ≤ n then n - l.length else -1) := by
  unfold laws_szRun.f
  by_cases h : (l.length : Int) ≤ n
  · rw [szRowS_yes l n h0 h1 h, if_pos h]
    simp only [Option.bind_some]
    rw [if_neg (by omega)]
  · rw [szRowS_no l n h0 h1 hl (by omega), if_neg h]
    rfl
theorem szRunS_go (l : List S91) (hl : l.length ≤ 9223372036854775807) (ho : ∀ x ∈ l, x.f0.length ≤ 9223372036854775807) (d : Nat) : ∀ (k : Nat) (n i : Int), 0 ≤ n → n ≤ 1048576 → 0 ≤ i → i ≤ l.length → (l.length : Int) - i = d → d < k →
    laws_szRunS.l0 k l n i = some (if totN (l.drop i.toNat) ≤ n then n - totN (l.drop i.toNat) else -1) := by
  induction d with
  | zero =>
    intro k n i hn0 hn1 h0 h1 hd hk
    obtain ⟨k, rfl⟩ : ∃ m, k = m + 1 := ⟨k - 1, by omega⟩
    simp only [laws_szRunS.l0]
    rw [if_neg (by omega), drop_end l i (by omega), show totN ([] : List S91) = 0 from rfl, if_pos hn0]
    simp
  | succ d ih =>
    intro k n i hn0 hn1 h0 h1 hd hk
    obtain ⟨k, rfl⟩ : ∃ m, k = m + 1 := ⟨k - 1, by omega⟩
    have hm := ho _ (getD_mem l z91 i h0 (by omega))
    simp only [laws_szRunS.l0]
    rw [if_pos (by omega), if_pos h0, drop_getD l z91 i h0 (by omega)]
    show ((laws_szRun.f (l.getD i.toNat z91).f0 n).bind _) = _
    have ht := totN_bd (l.drop (i + 1).toNat)
    rw [szRun_eq _ hm n hn0 hn1]
    rw [show ∀ (x : S91) y, totN (x :: y) = x.f0.length + totN y from fun _ _ => rfl]
    simp only [Option.bind_some]
    by_cases hx : ((l.getD i.toNat z91).f0.length : Int) ≤ n
    · rw [if_pos hx, if_neg (by omega), wrap_succ h0 (n := l.length) (by omega) (by omega), ih k _ (i + 1) (by omega) (by omega) (by omega) (by omega) (by omega) (by omega)]
      split
      · rw [if_pos (by omega)]
        congr 1
        omega
      · rw [if_neg (by omega)]
    · rw [if_neg hx, if_pos (by omega), if_neg (by omega)]
theorem szRunS_eq (l : List S91) (hl : l.length ≤ 9223372036854775807) (ho : ∀ x ∈ l, x.f0.length ≤ 9223372036854775807) (n : Int) (h0 : 0 ≤ n) (h1 : n ≤ 1048576) (k : Nat) (hk : l.length < k) :
    laws_szRunS.f k l n = some (if l.length + totN l ≤ n then n - l.length - totN l else -1) := by
  unfold laws_szRunS.f
  have ht := totN_bd l
  by_cases h : (l.length : Int) ≤ n
  · rw [wrap_id (by omega) (by omega), if_neg (by omega), szRunS_go l hl ho l.length k _ 0 (by omega) (by omega) (by omega) (by omega) (by omega) hk]
    simp only [Int.toNat_zero, List.drop_zero]
    by_cases h2 : (l.length + totN l : Int) ≤ n
    · rw [if_pos (by omega), if_pos h2]
    · rw [if_neg (by omega), if_neg h2]
  · rw [if_pos (by unfold wrap64; omega), if_neg (by omega)]
theorem toRunS_go (l : List S91) (hl : l.length ≤ 1048576) (ho : ∀ x ∈ l, x.f0.length ≤ 1048576) (d : Nat) : ∀ (k : Nat) (acc : List S93) (i : Int), 0 ≤ i → i ≤ l.length → acc.length = l.length → acc.take i.toNat = (l.map toRn).take i.toNat → (l.length : Int) - i = d → d + 1048577 < k →
    laws_toRunS.l0 k l acc i = some (l.map toRn) := by
  induction d with
  | zero =>
    intro k acc i h0 h1 ha ht hd hk
    obtain ⟨k, rfl⟩ : ∃ m, k = m + 1 := ⟨k - 1, by omega⟩
    simp only [laws_toRunS.l0]
    rw [if_neg (by omega)]
    exact congrArg some (take_all acc _ i (by omega) (by rw [List.length_map]; exact ha) ht)
  | succ d ih =>
    intro k acc i h0 h1 ha ht hd hk
    obtain ⟨k, rfl⟩ : ∃ m, k = m + 1 := ⟨k - 1, by omega⟩
    have hm := ho _ (getD_mem l z91 i h0 (by omega))
    simp only [laws_toRunS.l0]
    rw [if_pos (by omega), if_pos h0]
    simp only [laws_toRun.f]
    have ht1 : laws_toRowS.f k (rd_T91 l i).f0 = some ((rd_T91 l i).f0.map toR) := toRowS_eq _ hm k (by show (l.getD i.toNat z91).f0.length < k; omega)
    rw [ht1]
    simp only [Option.bind_some]
    rw [if_pos (by omega), wrap_succ h0 (n := l.length) (by omega) (by omega)]
    exact ih k _ (i + 1) (by omega) (by omega) (by rw [List.length_set]; exact ha) (take_set_succ toRn l acc z91 i h0 (by omega) ha ht) (by omega) (by omega)
theorem toRunS_eq (l : List S91) (hl : l.length ≤ 1048576) (ho : ∀ x ∈ l, x.f0.length ≤ 1048576) (k : Nat) (hk : l.length + 1048577 < k) : laws_toRunS.f k l = some (l.map toRn) := by
  unfold laws_toRunS.f
  rw [if_pos (by omega), if_pos (by omega)]
  exact toRunS_go l hl ho l.length k _ 0 (by omega) (by omega) (by simp) rfl (by omega) hk
theorem eqRunS_go (l : List S93) (hl : l.length ≤ 1048576) (ho : ∀ x ∈ l, x.f0.length ≤ 1048576) (d : Nat) : ∀ (k : Nat) (i : Int), 0 ≤ i → i ≤ l.length → (l.length : Int) - i = d → d + 1048577 < k → laws_eqRunS.l0 k l l i = some true := by
  induction d with
  | zero =>
    intro k i h0 h1 hd hk
    obtain ⟨k, rfl⟩ : ∃ m, k = m + 1 := ⟨k - 1, by omega⟩
    simp only [laws_eqRunS.l0]
    rw [if_neg (by omega)]
  | succ d ih =>
    intro k i h0 h1 hd hk
    obtain ⟨k, rfl⟩ : ∃ m, k = m + 1 := ⟨k - 1, by omega⟩
    have hm := ho _ (getD_mem l z93 i h0 (by omega))
    simp only [laws_eqRunS.l0]
    rw [if_pos (by omega), if_pos h0, if_pos (by omega)]
    simp only [laws_eqRun.f]
    have ht1 : laws_eqRowS.f k (rd_T93 l i).f0 (rd_T93 l i).f0 = some true := eqRowS_self _ (by show (l.getD i.toNat z93).f0.length ≤ _; omega) k (by show (l.getD i.toNat z93).f0.length < k; omega)
    rw [ht1]
    simp only [Option.bind_some, if_true]
    rw [wrap_succ h0 (n := l.length) (by omega) (by omega)]
    exact ih k (i + 1) (by omega) (by omega) (by omega) (by omega)
theorem eqRunS_self (l : List S93) (hl : l.length ≤ 1048576) (ho : ∀ x ∈ l, x.f0.length ≤ 1048576) (k : Nat) (hk : l.length + 1048577 < k) : laws_eqRunS.f k l l = some true := by
  unfold laws_eqRunS.f
  rw [if_pos rfl]
  exact eqRunS_go l hl ho l.length k 0 (by omega) (by omega) (by omega) hk
theorem toRn_small (l : List S91) (ho : ∀ x ∈ l, x.f0.length ≤ 1048576) : ∀ x ∈ l.map toRn, x.f0.length ≤ 1048576 := by
  intro x hx
  obtain ⟨y, hy, rfl⟩ := List.mem_map.1 hx
  have := ho y hy
  simpa [toRn] using this
end Go.Proofs.Ytngeppmincgebaa.Pure
