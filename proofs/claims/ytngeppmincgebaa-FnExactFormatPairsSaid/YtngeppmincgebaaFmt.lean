/- Plain lemmas: whole numbers and lists of texts written out, by the program and by the reference. -/
import Derived.Test.YtngeppmincgebaaPx0
import Derived.Test.YtngeppmincgebaaPx10
import Derived.Test.YtngeppmincgebaaPx6
import Derived.Test.YtngeppmincgebaaPx8
import Derived.Test.YtngeppmincgebaaPx9
import Derived.Test.YtngeppmincgebaaBase
namespace Go.Proofs.Ytngeppmincgebaa.Pure
open Go.RowKit Go.Proofs.Ytngeppmincgebaa.P Go.Proofs.YtngeppmincgebaaW.PrintWords Go.Proofs.YtngeppmincgebaaW.PrintLast

theorem ba_assoc (a b c : ByteArray) : a ++ b ++ c = a ++ (b ++ c) := by
  apply ByteArray.ext
  simp only [ByteArray.data_append, Array.append_assoc]
theorem ba_nil (a : ByteArray) : (⟨#[]⟩ : ByteArray) ++ a = a := by
  apply ByteArray.ext
  simp only [ByteArray.data_append, Array.empty_append]
theorem ba_end (a : ByteArray) : a ++ (⟨#[]⟩ : ByteArray) = a := by
  apply ByteArray.ext
  simp only [ByteArray.data_append, Array.append_empty]
theorem ba_sz (a b : ByteArray) : (a ++ b).size = a.size + b.size := by simp [ByteArray.size_append]
theorem ba_sz1 (c : UInt8) : (⟨#[c]⟩ : ByteArray).size = 1 := rfl
theorem ba_sz0 : (⟨#[]⟩ : ByteArray).size = 0 := rfl
/-- One digit. -/
def dg (c : Nat) : ByteArray := strOfNums [48 + (c : Int)]
theorem dg_sz (c : Nat) : (dg c).size = 1 := by
  unfold dg
  rw [strOfNums_size]
  rfl
/-- The digits of a number; none for zero. -/
def dz (n : Nat) : ByteArray := if _h : n = 0 then ⟨#[]⟩ else dz (n / 10) ++ dg (n % 10)
termination_by n
decreasing_by omega
theorem dz_zero : dz 0 = ⟨#[]⟩ := by
  rw [dz]
  rfl
theorem dz_pos (n : Nat) (h : n ≠ 0) : dz n = dz (n / 10) ++ dg (n % 10) := by
  rw [dz, dif_neg h]
theorem dz_sz (j : Nat) : ∀ n, n < 10 ^ j → (dz n).size ≤ j := by
  induction j with
  | zero =>
    intro n hn
    obtain rfl : n = 0 := by simpa using hn
    rw [dz_zero]
    exact Nat.le_refl 0
  | succ j ih =>
    intro n hn
    by_cases h : n = 0
    · subst h
      rw [dz_zero]
      exact Nat.zero_le _
    · rw [dz_pos n h, ba_sz, dg_sz]
      have := ih (n / 10) (by rw [Nat.pow_succ] at hn; omega)
      omega
theorem tm_pos (x : Int) (h : 0 ≤ x) : Int.tmod x 10 = x % 10 := Int.tmod_eq_emod_of_nonneg h
theorem td_pos (x : Int) (h : 0 ≤ x) : Int.tdiv x 10 = x / 10 := Int.tdiv_eq_ediv_of_nonneg h
theorem tm_neg (y : Int) (h : 0 ≤ y) : Int.tmod (-y) 10 = -(y % 10) := by
  rw [Int.neg_tmod, tm_pos y h]
theorem td_neg (y : Int) (h : 0 ≤ y) : Int.tdiv (-y) 10 = -(y / 10) := by
  rw [Int.neg_tdiv, td_pos y h]
theorem int_spec_go (j : Nat) : ∀ (k : Nat) (x : Int) (acc : ByteArray) (neg : Bool), x.natAbs < 10 ^ j → -9223372036854775808 ≤ x → x ≤ 9223372036854775807 → acc.size + j + 1 ≤ 1000000 → j < k →
    spec_FormatInt.l0 k x acc neg = some ((if neg = true then (⟨#[45]⟩ : ByteArray) else ⟨#[]⟩) ++ (dz x.natAbs ++ acc)) := by
  induction j with
  | zero =>
    intro k x acc neg hx h0 h1 ha hk
    obtain ⟨k, rfl⟩ : ∃ m, k = m + 1 := ⟨k - 1, by omega⟩
    obtain rfl : x = 0 := by
      have : x.natAbs < 1 := by simpa using hx
      omega
    rw [spec_FormatInt.l0, if_pos rfl, show Int.natAbs 0 = 0 from rfl, dz_zero, ba_nil, if_pos (show 1 + acc.size ≤ 9223372036854775807 by omega)]
    cases neg
    · rw [if_neg Bool.false_ne_true, if_neg Bool.false_ne_true, ba_nil]
    · rw [if_pos rfl, if_pos rfl]
  | succ j ih =>
    intro k x acc neg hx h0 h1 ha hk
    obtain ⟨k, rfl⟩ : ∃ m, k = m + 1 := ⟨k - 1, by omega⟩
    rw [spec_FormatInt.l0]
    by_cases hz : x = 0
    · subst hz
      rw [if_pos rfl, show Int.natAbs 0 = 0 from rfl, dz_zero, ba_nil, if_pos (show 1 + acc.size ≤ 9223372036854775807 by omega)]
      cases neg
      · rw [if_neg Bool.false_ne_true, if_neg Bool.false_ne_true, ba_nil]
      · rw [if_pos rfl, if_pos rfl]
    · rw [if_neg hz]
      have hj : x.natAbs / 10 < 10 ^ j := by
        rw [Nat.pow_succ] at hx
        omega
      have step : ∀ q : Int, q.natAbs = x.natAbs / 10 → -9223372036854775808 ≤ q → q ≤ 9223372036854775807 → spec_FormatInt.l0 k q (dg (x.natAbs % 10) ++ acc) neg = some ((if neg = true then (⟨#[45]⟩ : ByteArray) else ⟨#[]⟩) ++ (dz x.natAbs ++ acc)) := by
        intro q hq hq0 hq1
        rw [ih k q _ neg (by rw [hq]; exact hj) hq0 hq1 (by rw [ba_sz, dg_sz]; omega) (by omega), hq, dz_pos x.natAbs (by omega), ba_assoc (dz _) (dg _) acc]
      rcases Int.le_total 0 x with hp | hp
      · rw [tm_pos x hp, td_pos x hp, if_neg (by omega)]
        simp only [Option.bind_some]
        have e : (wrap64 (48 + x % 10)) % 256 = 48 + ((x.natAbs % 10 : Nat) : Int) := by
          rw [wrap_id (by omega) (by omega)]
          omega
        rw [e, wrap_id (x := x / 10) (by omega) (by omega)]
        show (if (dg (x.natAbs % 10)).size + acc.size ≤ _ then spec_FormatInt.l0 k (x / 10) (dg (x.natAbs % 10) ++ acc) neg else none) = _
        rw [dg_sz, if_pos (by omega)]
        exact step (x / 10) (by omega) (by omega) (by omega)
      · obtain ⟨y, rfl⟩ : ∃ y, x = -y := ⟨-x, by omega⟩
        rw [tm_neg y (by omega), td_neg y (by omega)]
        have e1 : (wrap64 (48 + wrap64 (-(-(y % 10))))) % 256 = 48 + (((-y).natAbs % 10 : Nat) : Int) := by
          rw [wrap_id (x := -(-(y % 10))) (by omega) (by omega), wrap_id (by omega) (by omega)]
          omega
        simp only [Option.bind_some]
        rw [e1, wrap_id (x := -(y / 10)) (by omega) (by omega)]
        by_cases hd : -(y % 10) < 0
        · rw [if_pos hd]
          show (if (dg ((-y).natAbs % 10)).size + acc.size ≤ _ then spec_FormatInt.l0 k (-(y / 10)) (dg ((-y).natAbs % 10) ++ acc) neg else none) = _
          rw [dg_sz, if_pos (by omega)]
          exact step (-(y / 10)) (by omega) (by omega) (by omega)
        · have e2 : (wrap64 (48 + -(y % 10))) % 256 = 48 + (((-y).natAbs % 10 : Nat) : Int) := by
            rw [wrap_id (by omega) (by omega)]
            omega
          rw [if_neg hd, e2]
          show (if (dg ((-y).natAbs % 10)).size + acc.size ≤ _ then spec_FormatInt.l0 k (-(y / 10)) (dg ((-y).natAbs % 10) ++ acc) neg else none) = _
          rw [dg_sz, if_pos (by omega)]
          exact step (-(y / 10)) (by omega) (by omega) (by omega)
/-- A whole number as text. -/
def fI (x : Int) : ByteArray := if x = 0 then ⟨#[48]⟩ else (if x < 0 then (⟨#[45]⟩ : ByteArray) else ⟨#[]⟩) ++ dz x.natAbs
theorem abs_small (x : Int) (h0 : -9223372036854775808 ≤ x) (h1 : x ≤ 9223372036854775807) : x.natAbs < 10 ^ 19 := by
  have : (10 : Nat) ^ 19 = 10000000000000000000 := rfl
  omega
theorem fI_sz (x : Int) (h0 : -9223372036854775808 ≤ x) (h1 : x ≤ 9223372036854775807) : (fI x).size ≤ 20 := by
  have := dz_sz 19 x.natAbs (abs_small x h0 h1)
  unfold fI
  split
  · rw [ba_sz1]
    omega
  · rw [ba_sz]
    split
    · rw [ba_sz1]
      omega
    · rw [ba_sz0]
      omega
theorem fI_spec (x : Int) (h0 : -9223372036854775808 ≤ x) (h1 : x ≤ 9223372036854775807) (k : Nat) (hk : 20 ≤ k) : spec_FormatInt.f k x = some (fI x) := by
  unfold spec_FormatInt.f fI
  by_cases hz : x = 0
  · rw [if_pos hz, if_pos hz]
  · rw [if_neg hz, if_neg hz, int_spec_go 19 k x _ _ (abs_small x h0 h1) h0 h1 (by rw [ba_sz0]; omega) (by omega), ba_end]
    simp only [decide_eq_true_eq]
theorem u64_mod (x : Int) : IntKind.u64.wrap x = x % 18446744073709551616 := by
  unfold IntKind.wrap
  simp [IntKind.bits, IntKind.signed]
theorem u64_id (x : Int) (h0 : 0 ≤ x) (h1 : x < 18446744073709551616) : IntKind.u64.wrap x = x := by
  rw [u64_mod]
  omega
theorem dec_impl (j : Nat) : ∀ (k n : Nat), 0 < n → n < 10 ^ j → n < 18446744073709551616 → j ≤ 100 → j ≤ k → impl_decimal.f k (n : Int) = some (dz n) := by
  induction j with
  | zero =>
    intro k n h0 h1 h2 hj hk
    have : n < 1 := by simpa using h1
    omega
  | succ j ih =>
    intro k n h0 h1 h2 hj hk
    obtain ⟨k, rfl⟩ : ∃ m, k = m + 1 := ⟨k - 1, by omega⟩
    simp only [impl_decimal.f]
    by_cases hs : (n : Int) < 10
    · rw [if_pos hs, u64_id _ (by omega) (by omega), dz_pos n (by omega), show n / 10 = 0 by omega, dz_zero, ba_nil, show (48 + (n : Int)) % 256 = 48 + ((n % 10 : Nat) : Int) by omega]
      rfl
    · rw [if_neg hs, td_pos _ (by omega), tm_pos _ (by omega), u64_id ((n : Int) / 10) (by omega) (by omega), u64_id (48 + (n : Int) % 10) (by omega) (by omega), show (n : Int) / 10 = ((n / 10 : Nat) : Int) by omega, ih k (n / 10) (by omega) (by rw [Nat.pow_succ] at h1; omega) (by omega) (by omega) (by omega)]
      simp only [Option.bind_some]
      rw [show (48 + (n : Int) % 10) % 256 = 48 + ((n % 10 : Nat) : Int) by omega, dz_pos n (by omega)]
      show (if (dz (n / 10)).size + (dg (n % 10)).size ≤ _ then some (dz (n / 10) ++ dg (n % 10)) else none) = _
      have := dz_sz j (n / 10) (by rw [Nat.pow_succ] at h1; omega)
      rw [dg_sz, if_pos (by omega)]
theorem fI_impl (x : Int) (h0 : -9223372036854775808 ≤ x) (h1 : x ≤ 9223372036854775807) (k : Nat) (hk : 20 ≤ k) : impl_FormatInt.f k x = some (fI x) := by
  have ha := abs_small x h0 h1
  unfold impl_FormatInt.f fI
  by_cases hn : x < 0
  · have e : IntKind.u64.wrap (-(IntKind.u64.wrap x)) = (x.natAbs : Int) := by
      rw [u64_mod, u64_mod]
      omega
    have := dz_sz 19 x.natAbs ha
    rw [if_pos hn, e, dec_impl 19 k x.natAbs (by omega) ha (by omega) (by omega) (by omega)]
    simp only [Option.bind_some]
    rw [if_pos (by omega), if_neg (by omega), if_pos hn]
  · rw [if_neg hn, u64_id x (by omega) (by omega)]
    by_cases hz : x = 0
    · obtain ⟨k, rfl⟩ : ∃ m, k = m + 1 := ⟨k - 1, by omega⟩
      subst hz
      rw [if_pos rfl, impl_decimal.f, if_pos (by omega), u64_id _ (by omega) (by omega)]
      rfl
    · rw [if_neg hz, if_neg hn, ba_nil]
      have e : x = (x.natAbs : Int) := by omega
      have := dec_impl 19 k x.natAbs (by omega) ha (by omega) (by omega) (by omega)
      rw [← e] at this
      rw [this]
      rfl
/-- Texts, each behind s. -/
def rst (s : ByteArray) : List ByteArray → ByteArray
  | [] => ⟨#[]⟩
  | t :: l => s ++ t ++ rst s l
/-- Texts with s between. -/
def jnd (s : ByteArray) : List ByteArray → ByteArray
  | [] => ⟨#[]⟩
  | t :: l => t ++ rst s l
theorem rst_sz (s : ByteArray) (B : Nat) (hs : s.size = 1) (l : List ByteArray) (h : ∀ t ∈ l, t.size ≤ B) : (rst s l).size ≤ l.length * (B + 1) := by
  induction l with
  | nil => exact Nat.zero_le _
  | cons t l ih =>
    have h1 := h t List.mem_cons_self
    have h2 := ih (fun t ht => h t (List.mem_cons_of_mem _ ht))
    rw [rst, ba_sz, ba_sz, List.length_cons, Nat.succ_mul]
    omega
theorem jnd_sz (s : ByteArray) (B : Nat) (hs : s.size = 1) (l : List ByteArray) (h : ∀ t ∈ l, t.size ≤ B) : (jnd s l).size ≤ l.length * (B + 1) := by
  cases l with
  | nil => exact Nat.zero_le _
  | cons t l =>
    have h1 := h t List.mem_cons_self
    have h2 := rst_sz s B hs l (fun t ht => h t (List.mem_cons_of_mem _ ht))
    rw [jnd, ba_sz, List.length_cons, Nat.succ_mul]
    omega
theorem joined_go (s : ByteArray) (hs : s.size = 1) (l : List ByteArray) (hl : l.length ≤ 100000000) (h : ∀ t ∈ l, t.size ≤ 10000) (d : Nat) : ∀ (k : Nat) (acc : ByteArray) (i : Int), 1 ≤ i → i ≤ l.length → acc.size + d * 10001 ≤ 9000000000000000000 → (l.length : Int) - i = d → d < k →
    impl_joined.l0 k s acc l (l.length : Int) i = some (acc ++ rst s (l.drop i.toNat)) := by
  induction d with
  | zero =>
    intro k acc i h0 h1 ha hd hk
    obtain ⟨k, rfl⟩ : ∃ m, k = m + 1 := ⟨k - 1, by omega⟩
    simp only [impl_joined.l0]
    rw [if_neg (by omega), drop_end l i (by omega), rst, ba_end]
  | succ d ih =>
    intro k acc i h0 h1 ha hd hk
    obtain ⟨k, rfl⟩ : ∃ m, k = m + 1 := ⟨k - 1, by omega⟩
    have hD : l.drop i.toNat = rdOf ByteArray.empty l i :: l.drop (i + 1).toNat := drop_getD l ByteArray.empty i (by omega) (by omega)
    have hm : (rdOf ByteArray.empty l i).size ≤ 10000 := h _ (getD_mem l ByteArray.empty i (by omega) (by omega))
    simp only [impl_joined.l0]
    rw [if_pos (by omega), if_pos (by omega), if_pos (by omega), if_pos (by omega), if_pos (by omega), if_pos (by rw [ba_sz]; omega), wrap_succ (by omega) (n := l.length) (by omega) (by omega), ih k _ (i + 1) (by omega) (by omega) (by rw [ba_sz, ba_sz]; omega) (by omega) (by omega), hD, rst]
    simp only [ba_assoc]
theorem joined_eq (s : ByteArray) (hs : s.size = 1) (l : List ByteArray) (hl : l.length ≤ 100000000) (h : ∀ t ∈ l, t.size ≤ 10000) (k : Nat) (hk : l.length < k) : impl_joined.f k l s = some (jnd s l) := by
  unfold impl_joined.f
  obtain ⟨k, rfl⟩ : ∃ m, k = m + 1 := ⟨k - 1, by omega⟩
  simp only [impl_joined.l0]
  by_cases hz : l.length = 0
  · rw [if_neg (by omega), List.eq_nil_of_length_eq_zero hz]
    rfl
  · have hD : l.drop (0 : Int).toNat = rdOf ByteArray.empty l 0 :: l.drop (0 + 1 : Int).toNat := drop_getD l ByteArray.empty 0 (by omega) (by omega)
    have hm : (rdOf ByteArray.empty l 0).size ≤ 10000 := h _ (getD_mem l ByteArray.empty 0 (by omega) (by omega))
    rw [if_pos (by omega), if_pos (by omega), if_pos (by omega), if_neg (by omega), ba_nil, ba_sz0, if_pos (by omega), wrap_succ (by omega) (n := l.length) (by omega) (by omega), joined_go s hs l hl h (l.length - 1) k _ (0 + 1) (by omega) (by omega) (by omega) (by omega) (by omega)]
    rw [show l.drop (0 : Int).toNat = l from rfl] at hD
    conv => rhs; rw [hD, jnd]
end Go.Proofs.Ytngeppmincgebaa.Pure
