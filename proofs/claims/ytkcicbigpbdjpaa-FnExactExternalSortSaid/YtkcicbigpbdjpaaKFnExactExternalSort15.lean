-- merged by pack.py out of MrgS VRuns RSelW MrgN Mark ToRow PureFnExactExternalSort (words: printed by the kit's print.sh; what this claim does not use is left out)

import Derived.Test.YtkcicbigpbdjpaaKFnExactExternalSort1
import Derived.Test.YtkcicbigpbdjpaaKFnExactExternalSort2
import Derived.Test.YtkcicbigpbdjpaaKFnExactExternalSort3
import Derived.Test.YtkcicbigpbdjpaaKFnExactExternalSort4
import Derived.Test.YtkcicbigpbdjpaaKFnExactExternalSort5
import Derived.Test.YtkcicbigpbdjpaaKFnExactExternalSort6
import Derived.Test.YtkcicbigpbdjpaaKFnExactExternalSort7
import Derived.Test.YtkcicbigpbdjpaaKFnExactExternalSort9
import Derived.Test.YtkcicbigpbdjpaaKFnExactExternalSort10
import Derived.Test.YtkcicbigpbdjpaaKFnExactExternalSort11
import Derived.Test.YtkcicbigpbdjpaaKFnExactExternalSort12
import Derived.Test.YtkcicbigpbdjpaaKFnExactExternalSort13
import Derived.Test.YtkcicbigpbdjpaaKFnExactExternalSort14
section
namespace Go.Proofs.Ytkcicbigpbdjpaa.Pure
open Go.RowKit Go.Proofs.Ytkcicbigpbdjpaa.P Go.Proofs.YtkcicbigpbdjpaaW.PrintWords Go.Proofs.YtkcicbigpbdjpaaW.PrintLast
def leR (x y : S71) : Bool := decide (cmpR x y ≤ 0)
def mrg (a b : List S71) : List S71 := a.merge b leR
theorem mrg_nil_left (b : List S71) : mrg [] b = b := List.nil_merge _
theorem mrg_nil_right (a : List S71) : mrg a [] = a := List.merge_right _
theorem mrg_left (x y : S71) (a b : List S71) (h : cmpR x y ≤ 0) : mrg (x :: a) (y :: b) = x :: mrg a (y :: b) := by
 unfold mrg
 rw [List.cons_merge_cons, if_pos (show leR x y = true from decide_eq_true h)]
theorem mrg_right (x y : S71) (a b : List S71) (h : ¬ cmpR x y ≤ 0) : mrg (x :: a) (y :: b) = y :: mrg (x :: a) b := by
 unfold mrg
 rw [List.cons_merge_cons, if_neg (show ¬ leR x y = true from fun e => h (of_decide_eq_true e))]
theorem mrg_perm (a b : List S71) : (mrg a b).Perm (a ++ b) := List.merge_perm_append _
theorem snoc_cons {α : Type} (out : List α) (x : α) (l : List α) : out ++ [x] ++ l = out ++ x :: l := by simp
theorem mrg_impl_go (d : Nat) : ∀ (k : Nat) (a b out : List S71), a.length + b.length = d → out.length + d ≤ 1000000000000 → 2 * d + 4 < k → y_d.l0 k a b out = some (out ++ mrg a b) := by
 induction d with
 | zero =>
  intro k a b out hd ho hk
  obtain ⟨k, rfl⟩ : ∃ m, k = m + 2 := ⟨k - 2, by omega⟩
  obtain rfl : a = [] := List.eq_nil_of_length_eq_zero (by omega)
  obtain rfl : b = [] := List.eq_nil_of_length_eq_zero (by omega)
  simp only [y_d.l0, y_d.j1, mrg_nil_left]
  simp
 | succ d ih =>
  intro k a b out hd ho hk
  obtain ⟨k, rfl⟩ : ∃ m, k = m + 2 := ⟨k - 2, by omega⟩
  match a, b with
  | [], [] => simp at hd
  | [], y :: b =>
   have hb : b.length = d := by simpa using hd
   simp only [y_d.l0, y_d.j1]
   rw [if_neg (by simp), decide_eq_true (by simp only [List.length_cons]; omega), if_pos rfl, if_neg (by simp only [List.length_cons]; omega), if_neg (by simp), if_pos (by simp only [List.length_cons]; omega), if_pos (by omega), if_pos (by simp only [List.length_cons]; omega)]
   rw [show List.drop 1 (y :: b) = b from rfl, ih k [] b _ (by simpa using hb) (by simp only [List.length_append, List.length_singleton]; omega) (by omega), mrg_nil_left, mrg_nil_left]
   rw [snoc_cons]
   rfl
  | x :: a, [] =>
   have ha : a.length = d := by simpa using hd
   simp only [y_d.l0, y_d.j1]
   rw [if_pos (by simp only [List.length_cons]; omega), if_true, if_pos (by simp), if_pos (by simp only [List.length_cons]; omega), if_pos (by omega), if_pos (by simp only [List.length_cons]; omega)]
   rw [show List.drop 1 (x :: a) = a from rfl, ih k a [] _ (by simpa using ha) (by simp only [List.length_append, List.length_singleton]; omega) (by omega), mrg_nil_right, mrg_nil_right]
   rw [snoc_cons]
   rfl
  | x :: a, y :: b =>
   have hl : a.length + b.length + 1 = d := by simp only [List.length_cons] at hd; omega
   simp only [y_d.l0, y_d.j1]
   rw [if_pos (by simp only [List.length_cons]; omega), if_true, if_neg (by simp only [List.length_cons]; omega), if_pos (by simp only [List.length_cons]; omega), if_pos (by simp only [List.length_cons]; omega), if_pos (by simp only [List.length_cons]; omega), cmp_impl]
   simp only [Option.bind_some]
   show (if cmpR x y ≤ 0 then _ else _) = _
   by_cases hc : cmpR x y ≤ 0
   ·rw [if_pos hc, if_pos (by omega), if_pos (by simp only [List.length_cons]; omega), show List.drop 1 (x :: a) = a from rfl, ih k a (y :: b) _ (by simp only [List.length_cons]; omega) (by simp only [List.length_append, List.length_singleton]; omega) (by omega), mrg_left x y a b hc, snoc_cons]
    rfl
   ·rw [if_neg hc, if_pos (by omega), if_pos (by simp only [List.length_cons]; omega), show List.drop 1 (y :: b) = b from rfl, ih k (x :: a) b _ (by simp only [List.length_cons]; omega) (by simp only [List.length_append, List.length_singleton]; omega) (by omega), mrg_right x y a b hc, snoc_cons]
    rfl
theorem mrg_impl (a b : List S71) (hl : a.length + b.length ≤ 1000000000000) (k : Nat) (hk : 2 * (a.length + b.length) + 4 < k) : y_d.f k a b = some (mrg a b) := by
 unfold y_d.f
 rw [mrg_impl_go (a.length + b.length) k a b [] rfl (by simpa using hl) hk]
 rfl
theorem mrg_spec_go (a b : List S71) (ha : a.length ≤ 1000000000000) (hb : b.length ≤ 1000000000000) (d : Nat) : ∀ (k : Nat) (out : List S71) (i j : Int), 0 ≤ i → i ≤ a.length → 0 ≤ j → j ≤ b.length →
  ((a.length : Int) - i) + ((b.length : Int) - j) = d → out.length + d ≤ 1000000000000 → 2 * d + 8 < k → y_g.l0 k a b out i j = some (out ++ mrg (a.drop i.toNat) (b.drop j.toNat)) := by
 induction d with
 | zero =>
  intro k out i j hi0 hi1 hj0 hj1 hd ho hk
  obtain ⟨k, rfl⟩ : ∃ m, k = m + 2 := ⟨k - 2, by omega⟩
  simp only [y_g.l0, y_g.j1]
  rw [if_neg (by omega), decide_eq_false (by omega), if_neg (by decide), drop_end a i (by omega), drop_end b j (by omega), mrg_nil_left]
  simp
 | succ d ih =>
  intro k out i j hi0 hi1 hj0 hj1 hd ho hk
  obtain ⟨k, rfl⟩ : ∃ m, k = m + 2 := ⟨k - 2, by omega⟩
  simp only [y_g.l0, y_g.j1]
  by_cases hi : i < (a.length : Int)
  ·rw [if_pos hi, if_true, wrap_succ hi0 hi (by omega)]
   have da := drop_getD a z71 i hi0 hi
   by_cases hj : j = (b.length : Int)
   ·rw [if_pos hj, if_pos hi0, if_pos hi, if_pos (by omega), ih k _ (i + 1) j (by omega) (by omega) (by omega) (by omega) (by omega) (by simp only [List.length_append, List.length_singleton]; omega) (by omega), da, drop_end b j (by omega), mrg_nil_right, mrg_nil_right, snoc_cons]
    rfl
   ·have db := drop_getD b z71 j hj0 (by omega)
    rw [if_neg hj, if_pos hi, if_pos hi0, if_pos hj0, if_pos (show j < (b.length : Int) by omega), cmp_spec _ _ k (by omega), wrap_succ hj0 (n := b.length) (by omega) (by omega)]
    simp only [Option.bind_some]
    by_cases hc : cmpR (rd_T71 a i) (rd_T71 b j) ≤ 0
    ·rw [if_pos hc, if_pos (by omega), ih k _ (i + 1) j (by omega) (by omega) (by omega) (by omega) (by omega) (by simp only [List.length_append, List.length_singleton]; omega) (by omega), da, db, mrg_left _ _ _ _ (show cmpR (a.getD i.toNat z71) (b.getD j.toNat z71) ≤ 0 from hc), snoc_cons]
     rfl
    ·rw [if_neg hc, if_pos (by omega), ih k _ i (j + 1) (by omega) (by omega) (by omega) (by omega) (by omega) (by simp only [List.length_append, List.length_singleton]; omega) (by omega), da, db, mrg_right _ _ _ _ (show ¬ cmpR (a.getD i.toNat z71) (b.getD j.toNat z71) ≤ 0 from hc), snoc_cons]
     rfl
  ·have hj : j < (b.length : Int) := by omega
   have db := drop_getD b z71 j hj0 hj
   rw [if_neg hi, decide_eq_true hj, if_pos rfl, if_neg (by omega), if_neg hi, if_pos hj0, if_pos hj, if_pos (by omega), wrap_succ hj0 hj (by omega), ih k _ i (j + 1) (by omega) (by omega) (by omega) (by omega) (by omega) (by simp only [List.length_append, List.length_singleton]; omega) (by omega), db, drop_end a i (by omega), mrg_nil_left, mrg_nil_left, snoc_cons]
   rfl
theorem mrg_spec (a b : List S71) (hl : a.length + b.length ≤ 1000000000000) (k : Nat) (hk : 2 * (a.length + b.length) + 8 < k) : y_g.f k a b = some (mrg a b) := by
 unfold y_g.f
 rw [mrg_spec_go a b (by omega) (by omega) (a.length + b.length) k [] 0 0 (by omega) (by omega) (by omega) (by omega) (by omega) (by simpa using hl) hk]
 rfl
def vRun (x : S39) : Bool := !decide (x.f0.length = 0) && (srtd x.f0 && vRows x.f0)
theorem vRuns_spec_go (l : List S39) (B : Nat) (hB : B ≤ 9223372036854775807) (hl : l.length ≤ 9223372036854775807) (ho : ∀ x ∈ l, x.f0.length ≤ B) (d : Nat) : ∀ (k : Nat) (i : Int), 0 ≤ i → i ≤ l.length → (l.length : Int) - i = d → d + B + 5 < k → y_bb.l0 k l i = some ((l.drop i.toNat).all vRun) := by
 induction d with
 | zero =>
  intro k i h0 h1 hd hk
  obtain ⟨k, rfl⟩ : ∃ m, k = m + 1 := ⟨k - 1, by omega⟩
  simp only [y_bb.l0]
  rw [if_neg (by omega), drop_end l i (by omega)]
  rfl
 | succ d ih =>
  intro k i h0 h1 hd hk
  obtain ⟨k, rfl⟩ : ∃ m, k = m + 1 := ⟨k - 1, by omega⟩
  have hm : (rd_T39 l i).f0.length ≤ B := ho _ (getD_mem l z39 i h0 (by omega))
  have hD : l.drop i.toNat = rd_T39 l i :: l.drop (i + 1).toNat := drop_getD l z39 i h0 (by omega)
  have a1 := srt_spec (rd_T39 l i).f0 (by omega) k (by omega)
  have a2 := vRows_spec (rd_T39 l i).f0 (by omega) k (by omega)
  simp only [y_bb.l0]
  rw [if_pos (by omega), if_pos h0, wrap_succ h0 (n := l.length) (by omega) (by omega), ih k (i + 1) (by omega) (by omega) (by omega) (by omega), hD]
  generalize rd_T39 l i = x at *
  rw [a1, a2]
  simp only [Option.bind_some, List.all_cons, vRun]
  by_cases he : x.f0.length = 0
  ·rw [if_pos (by omega), decide_eq_true he]
   rfl
  ·rw [if_neg (by omega), decide_eq_false he]
   cases srtd x.f0 <;> cases vRows x.f0 <;> simp
theorem vRuns_spec (l : List S39) (B : Nat) (hB : B ≤ 9223372036854775807) (hl : l.length ≤ 9223372036854775807) (ho : ∀ x ∈ l, x.f0.length ≤ B) (k : Nat) (hk : l.length + B + 5 < k) : y_bb.f k l = some (l.all vRun) := by
 unfold y_bb.f
 exact vRuns_spec_go l B hB hl ho l.length k 0 (by omega) (by omega) (by omega) hk
theorem vRuns_impl_go (l : List S39) (B : Nat) (hB : B ≤ 9223372036854775807) (hl : l.length ≤ 9223372036854775807) (ho : ∀ x ∈ l, x.f0.length ≤ B) (d : Nat) : ∀ (k : Nat) (i : Int), 0 ≤ i → i ≤ l.length → (l.length : Int) - i = d → d + B + 5 < k → y_n.l0 k l (l.length : Int) i = some ((l.drop i.toNat).all vRun) := by
 induction d with
 | zero =>
  intro k i h0 h1 hd hk
  obtain ⟨k, rfl⟩ : ∃ m, k = m + 1 := ⟨k - 1, by omega⟩
  simp only [y_n.l0]
  rw [if_neg (by omega), drop_end l i (by omega)]
  rfl
 | succ d ih =>
  intro k i h0 h1 hd hk
  obtain ⟨k, rfl⟩ : ∃ m, k = m + 1 := ⟨k - 1, by omega⟩
  have hm : (rd_T39 l i).f0.length ≤ B := ho _ (getD_mem l z39 i h0 (by omega))
  have hD : l.drop i.toNat = rd_T39 l i :: l.drop (i + 1).toNat := drop_getD l z39 i h0 (by omega)
  have a1 := srt_impl (rd_T39 l i).f0 (by omega) k (by omega)
  have a2 := vRows_impl (rd_T39 l i).f0 (by omega) k (by omega)
  simp only [y_n.l0]
  rw [if_pos (by omega), if_pos h0, if_pos (by omega), wrap_succ h0 (n := l.length) (by omega) (by omega), ih k (i + 1) (by omega) (by omega) (by omega) (by omega), hD]
  generalize rd_T39 l i = x at *
  rw [a1, a2]
  simp only [Option.bind_some, List.all_cons, vRun]
  by_cases he : x.f0.length = 0
  ·rw [if_pos (by omega), decide_eq_true he]
   rfl
  ·rw [if_neg (by omega), decide_eq_false he]
   cases srtd x.f0 <;> cases vRows x.f0 <;> simp
theorem vRuns_impl (l : List S39) (B : Nat) (hB : B ≤ 9223372036854775807) (hl : l.length ≤ 9223372036854775807) (ho : ∀ x ∈ l, x.f0.length ≤ B) (k : Nat) (hk : l.length + B + 5 < k) : y_n.f k l = some (l.all vRun) := by
 unfold y_n.f
 exact vRuns_impl_go l B hB hl ho l.length k 0 (by omega) (by omega) (by omega) hk
theorem wrap_sub1 {n : Nat} (h : 0 < n) (hn : n ≤ 9223372036854775807) : wrap64 ((n : Int) - 1) = (n : Int) - 1 := wrap_id (by omega) (by omega)
theorem last_le (l : List S71) (hs : SP l) (x : S71) (h0 : 0 < l.length) (h : cmpR (rd_T71 l ((l.length : Int) - 1)) x ≤ 0) : ∀ y ∈ l, cmpR y x ≤ 0 := by
 have := getD_le l hs (l.length - 1) (by omega) x (by
  have e : ((l.length : Int) - 1).toNat = l.length - 1 := by omega
  unfold rd_T71 at h
  rw [e] at h
  exact h)
 rw [List.take_of_length_le (by omega)] at this
 exact this
def less (x : S71) (cur : List S71) : Bool := decide (0 < cur.length) && decide (cmpR x (rd_T71 cur ((cur.length : Int) - 1)) < 0)
theorem below_impl (x : S71) (cur : List S71) (hl : cur.length ≤ 1000000000) : y_fb.f x.f0 x.f1 x.f2 cur = some (less x cur) := by
 unfold y_fb.f less
 by_cases h : 0 < cur.length
 ·rw [if_pos (by omega), wrap_sub1 h (by omega), if_pos (by omega), if_pos (by omega), cmp_impl, decide_eq_true h]
  simp
 ·rw [if_neg (by omega), decide_eq_false h]
  rfl
theorem less_no (x : S71) (cur : List S71) (hs : SP cur) (h : less x cur = false) : ∀ y ∈ cur, cmpR y x ≤ 0 := by
 by_cases h0 : 0 < cur.length
 ·refine last_le cur hs x h0 ?_
  unfold less at h
  rw [decide_eq_true h0, Bool.true_and, decide_eq_false_iff_not] at h
  have := cmpR_anti x (rd_T71 cur ((cur.length : Int) - 1))
  omega
 ·intro y hy
  have e : cur = [] := List.eq_nil_of_length_eq_zero (by omega)
  rw [e] at hy
  cases hy
theorem less_yes (x : S71) (cur : List S71) (h : less x cur = true) : cur ≠ [] := by
 intro e
 rw [e] at h
 exact Bool.false_ne_true h
def rdb (l : List S71) (mem : Int) (heap next : List S71) (i : Int) : Bool := decide (i < (l.length : Int)) && decide (tot heap + tot next + cost (rd_T71 l i) ≤ mem)
theorem j2_spec (l : List S71) (mem : Int) (out : List S39) (cur heap next : List S71) (i : Int) (h0 : 0 ≤ i) (hh : heap.length ≤ 1000000000) (hn : next.length ≤ 1000000000) (k : Nat) (hk1 : heap.length < k) (hk2 : next.length < k) :
  y_b.j2 (k + 1) l mem out cur heap next i true = y_b.j3 k l mem out cur heap next i (rdb l mem heap next i) := by
 have b1 := tot_bd heap
 have b2 := tot_bd next
 have b3 := cost_bd (rd_T71 l i)
 rw [y_b.j2, if_pos rfl]
 unfold rdb
 by_cases h : i < (l.length : Int)
 ·rw [if_pos h, tot_spec heap (by omega) k hk1, tot_spec next (by omega) k hk2]
  simp only [Option.bind_some]
  rw [if_pos h0, cost_spec]
  simp only [Option.bind_some]
  rw [wrap_id (x := tot heap + tot next) (by omega) (by omega), wrap_id (by omega) (by omega), decide_eq_true h, Bool.true_and]
 ·rw [if_neg h, decide_eq_false h]
  rfl
theorem l0_impl (l : List S71) (mem : Int) (out : List S39) (cur heap next : List S71) (i : Int) (h0 : 0 ≤ i) (hh : heap.length ≤ 1000000000) (hn : next.length ≤ 1000000000) (k : Nat) (hk1 : heap.length < k) (hk2 : next.length < k) :
  y_a.l0 (k + 1) l mem heap next cur out i = y_a.j2 k l mem heap next cur out i (rdb l mem heap next i) := by
 have b1 := tot_bd heap
 have b2 := tot_bd next
 have b3 := cost_bd (rd_T71 l i)
 rw [y_a.l0]
 unfold rdb
 by_cases h : i < (l.length : Int)
 ·rw [if_pos h, tot_impl heap (by omega) k hk1, tot_impl next (by omega) k hk2]
  simp only [Option.bind_some]
  rw [if_pos h0, cost_impl]
  simp only [Option.bind_some]
  rw [wrap_id (x := tot heap + tot next) (by omega) (by omega), wrap_id (by omega) (by omega), decide_eq_true h, Bool.true_and]
 ·rw [if_neg h, decide_eq_false h]
  rfl
theorem rsel_go (l : List S71) (hl : l.length ≤ 24) (mem : Int) (hmem : 4 ≤ mem) (d : Nat) : ∀ (k1 k2 : Nat) (out : List S39) (cur heap next : List S71) (i : Int), RInv l mem out cur heap next i →
  3 * (l.length - i.toNat) + 2 * next.length + heap.length < d → 4 * d + 100 < k1 → 4 * d + 100 < k2 →
  ∃ R, y_b.l0 k1 l mem out cur heap next i = some (R, true) ∧ y_a.l0 k2 l mem heap next cur out i = some (R, true) ∧ Post l mem R := by
 induction d with
 | zero => intro k1 k2 out cur heap next i _ hd; omega
 | succ d ih =>
  intro k1 k2 out cur heap next i inv hd hk1 hk2
  have len := inv_len inv
  have h0 := inv.hi0
  have h1 := inv.hi1
  have lo := fl_len out (fun r hr => (inv.hout r hr).1)
  obtain ⟨k1, rfl⟩ : ∃ m, k1 = m + 1 + 1 + 1 := ⟨k1 - 3, by omega⟩
  obtain ⟨k2, rfl⟩ : ∃ m, k2 = m + 1 + 1 + 1 := ⟨k2 - 3, by omega⟩
  have hT : (i < (l.length : Int)) ∨ 0 < heap.length + next.length → y_b.l0 (k1 + 1 + 1 + 1) l mem out cur heap next i = y_b.j3 (k1 + 1) l mem out cur heap next i (rdb l mem heap next i) := by
   intro h
   rw [y_b.l0]
   by_cases hi : i < (l.length : Int)
   ·rw [if_pos hi, j2_spec l mem out cur heap next i h0 (by omega) (by omega) (k1 + 1) (by omega) (by omega)]
   ·rw [if_neg hi, wrap_id (by omega) (by omega), decide_eq_true (show (heap.length : Int) + next.length > 0 by omega), j2_spec l mem out cur heap next i h0 (by omega) (by omega) (k1 + 1) (by omega) (by omega)]
  rw [l0_impl l mem out cur heap next i h0 (by omega) (by omega) (k2 + 1 + 1) (by omega) (by omega)]
  cases hr : rdb l mem heap next i with
  | true =>
   have hi : i < (l.length : Int) := by
    unfold rdb at hr
    rw [Bool.and_eq_true, decide_eq_true_eq] at hr
    exact hr.1
   rw [hT (Or.inl hi), hr, y_b.j3, if_pos rfl, y_a.j2, if_pos rfl, below_impl (rd_T71 l i) cur (by omega), wrap_succ h0 (n := l.length) hi (by omega)]
   simp only [Option.bind_some]
   have e : (⟨(rd_T71 l i).f0, (rd_T71 l i).f1, (rd_T71 l i).f2⟩ : S71) = rd_T71 l i := rfl
   have hN : next.length < 5864062014805 := by omega
   have hH : heap.length < 5864062014805 := by omega
   have hS : ∀ X Y : Option (List S39 × Bool), (if (cur.length : Int) > 0 then (if 0 ≤ (wrap64 ((cur.length : Int) - 1)) then (if (wrap64 ((cur.length : Int) - 1)) < (cur.length : Int) then ((y_l.f k1 ((rd_T71 l i).f0) ((rd_T71 l i).f1) ((rd_T71 l i).f2) ((rd_T71 cur (wrap64 ((cur.length : Int) - 1))).f0) ((rd_T71 cur (wrap64 ((cur.length : Int) - 1))).f1) ((rd_T71 cur (wrap64 ((cur.length : Int) - 1))).f2)).bind fun t398 => (if t398 < 0 then X else Y)) else (none)) else (none)) else Y)
     = if less (rd_T71 l i) cur = true then X else Y := by
    intro X Y
    unfold less
    by_cases hc : 0 < cur.length
    ·rw [if_pos (by omega), wrap_sub1 hc (by omega), if_pos (by omega), if_pos (by omega), cmp_spec _ _ k1 (by omega), decide_eq_true hc]
     simp only [Option.bind_some, Bool.true_and, decide_eq_true_eq]
    ·rw [if_neg (by omega), decide_eq_false hc, Bool.false_and, if_neg Bool.false_ne_true]
   simp only [e, h0, hi, hN, hH, if_true]
   rw [hS]
   cases hb : less (rd_T71 l i) cur with
   | true =>
    rw [if_pos rfl, if_pos rfl]
    exact ih k1 (k2 + 1) out cur heap _ (i + 1) (inv_next inv hi (less_yes _ _ hb)) (by rw [List.length_append, List.length_singleton]; omega) (by omega) (by omega)
   | false =>
    rw [if_neg Bool.false_ne_true, if_neg Bool.false_ne_true]
    exact ih k1 (k2 + 1) out cur _ next (i + 1) (inv_heap inv hi (less_no _ _ inv.hcur hb)) (by rw [List.length_append, List.length_singleton]; omega) (by omega) (by omega)
  | false =>
   have hf : i < (l.length : Int) → mem < tot heap + tot next + cost (rd_T71 l i) := by
    intro hi
    unfold rdb at hr
    rw [decide_eq_true hi, Bool.true_and, decide_eq_false_iff_not] at hr
    omega
   rw [y_a.j2, if_neg Bool.false_ne_true]
   by_cases hh : heap.length = 0
   ·have eh := List.eq_nil_of_length_eq_zero hh
    rw [if_pos (by omega)]
    by_cases hn : next.length = 0
    ·have en := List.eq_nil_of_length_eq_zero hn
     have hi : ¬ i < (l.length : Int) := by
      intro hi
      have := hf hi
      rw [eh, en] at this
      have := cost_bd (rd_T71 l i)
      simp only [tot] at *
      omega
     rw [eh, en] at inv
     have post := inv_end inv hi
     refine ⟨_, ?_, ?_, post⟩
     ·rw [y_b.l0, if_neg hi, wrap_id (by omega) (by omega), decide_eq_false (by omega), y_b.j2, if_neg Bool.false_ne_true]
      by_cases hc : 0 < cur.length
      ·rw [if_pos (by omega), if_pos (by omega), if_pos hc]
      ·rw [if_neg (by omega), if_neg hc]
     ·rw [y_a.j3, decide_eq_false (by omega), if_neg Bool.false_ne_true, if_neg (by omega)]
      have hm : ∀ x ∈ out, x.f0.length ≤ 1000000000 := fun x hx => by
       have := fl_mem out x hx
       omega
      by_cases hc : 0 < cur.length
      ·rw [if_pos (by omega), if_pos (by omega), if_pos hc, cloneRuns_eq _ (by rw [List.length_append, List.length_singleton]; omega) (fun x hx => by
        rcases List.mem_append.1 hx with h | h
        ·exact hm x h
        ·obtain rfl : x = ⟨cur⟩ := by simpa using h
         show cur.length ≤ _
         omega) k2 (by rw [List.length_append, List.length_singleton]; omega)]
       rfl
      ·rw [if_neg (by omega), if_neg hc, cloneRuns_eq _ (by omega) hm k2 (by omega)]
       rfl
    ·have en : next ≠ [] := fun e => hn (by rw [e]; rfl)
     rw [hT (Or.inr (by omega)), hr, y_b.j3, if_neg Bool.false_ne_true, if_pos (by omega), if_pos (by omega), y_a.j3, decide_eq_true (show (next.length : Int) > 0 by omega), if_pos rfl, if_pos (by omega)]
     rw [eh] at inv
     exact ih k1 k2 (out ++ [⟨cur⟩]) [] next [] i (inv_flush inv en) (by simp only [List.length_nil]; omega) (by omega) (by omega)
   ·rw [if_neg (by omega), hT (Or.inr (by omega)), hr, y_b.j3, if_neg Bool.false_ne_true, if_neg (by omega), y_a.j3, if_neg Bool.false_ne_true, if_pos (by omega)]
    obtain ⟨m, e1, e2, hm0, hm1, hm2, hmin⟩ := min_both heap (by omega) k1 k2 (by omega) (by omega)
    have hm : 0 ≤ m := by
     rcases Int.lt_or_le m 0 with h | h
     ·exact absurd (hm2 h) hh
     ·exact h
    rw [e1, e2]
    simp only [Option.bind_some]
    rw [if_pos hm, if_pos hm, if_pos (by omega), if_pos (by omega), if_pos (by omega), if_pos (by omega), drop1_spec heap m hm hm1 (by omega), taken_impl heap m hm hm1 (by omega)]
    simp only [Option.bind_some]
    have lp := (out1_perm heap m hm hm1).length_eq
    rw [List.length_cons] at lp
    exact ih k1 k2 out (cur ++ [rd_T71 heap m]) (out1 heap m) next i (inv_pop inv m hm hm1 hmin hf) (by omega) (by omega) (by omega)
theorem rinv_start (l : List S71) (mem : Int) : RInv l mem [] [] [] [] 0 :=
 ⟨by omega, by omega, List.Perm.refl _, fun r hr => absurd hr (by simp), List.Pairwise.nil, fun x hx => absurd hx (by simp), fun _ => rfl, fun h => absurd rfl h, fun _ => ⟨rfl, rfl, fun h => absurd rfl h⟩⟩
theorem rsel_both (l : List S71) (hl : l.length ≤ 1000000000) (mem : Int) (k1 k2 : Nat) (hk1 : l.length + 5000 < k1) (hk2 : l.length + 5000 < k2) :
  ∃ R ok, y_b.f k1 l mem = some (R, ok) ∧ y_a.f k2 l mem = some (R, ok) ∧ (ok = (vRows l && decide (8 ≤ mem ∧ mem ≤ 60))) ∧ (ok = false → R = []) ∧ (ok = true → Post l mem R) := by
 unfold y_b.f y_a.f y_qb.f
 rw [vRows_spec l (by omega) k1 (by omega), vRows_impl l (by omega) k2 (by omega)]
 simp only [Option.bind_some, l1In_in, within_in]
 obtain ⟨k1, rfl⟩ : ∃ m, k1 = m + 1 := ⟨k1 - 1, by omega⟩
 obtain ⟨k2, rfl⟩ : ∃ m, k2 = m + 1 := ⟨k2 - 1, by omega⟩
 cases hv : vRows l with
 | false =>
  rw [if_neg Bool.false_ne_true, if_neg Bool.false_ne_true, y_b.j0, y_a.j0, if_pos rfl, if_pos rfl]
  exact ⟨[], false, rfl, rfl, rfl, fun _ => rfl, fun h => absurd h Bool.false_ne_true⟩
 | true =>
  rw [if_pos rfl, if_pos rfl]
  by_cases hm : 8 ≤ mem ∧ mem ≤ 60
  ·have hl24 : l.length ≤ 24 := by
    unfold vRows at hv
    rw [Bool.and_eq_true, decide_eq_true_eq] at hv
    exact hv.2
   rw [decide_eq_true hm, y_b.j0, y_a.j0]
   simp only [Bool.not_true, Bool.false_eq_true, if_false]
   obtain ⟨R, e1, e2, p⟩ := rsel_go l hl24 mem (by omega) 100 k1 k2 [] [] [] [] 0 (rinv_start l mem) (by simp only [List.length_nil, Int.toNat_zero]; omega) (by omega) (by omega)
   exact ⟨R, true, e1, e2, rfl, fun h => absurd h.symm Bool.false_ne_true, fun _ => p⟩
  ·rw [decide_eq_false hm, y_b.j0, y_a.j0]
   simp only [Bool.not_false, if_true]
   exact ⟨[], false, rfl, rfl, rfl, fun _ => rfl, fun h => absurd h Bool.false_ne_true⟩
def mp : List S39 → List S39
 | [] => []
 | [x] => [⟨x.f0⟩]
 | x :: y :: l => ⟨mrg x.f0 y.f0⟩ :: mp l
theorem mp_len (n : Nat) : ∀ l : List S39, l.length ≤ n → (mp l).length = (l.length + 1) / 2 := by
 induction n with
 | zero =>
  intro l h
  have e : l = [] := List.eq_nil_of_length_eq_zero (by omega)
  rw [e]
  rfl
 | succ n ih =>
  intro l h
  match l, h with
  | [], _ => rfl
  | [x], _ =>
   rw [mp]
   simp
  | x :: y :: l, h =>
   rw [mp, List.length_cons, ih l (by simp only [List.length_cons] at h; omega)]
   simp only [List.length_cons]
   omega
theorem mp_perm (n : Nat) : ∀ l : List S39, l.length ≤ n → (fl (mp l)).Perm (fl l) := by
 induction n with
 | zero =>
  intro l h
  have e : l = [] := List.eq_nil_of_length_eq_zero (by omega)
  rw [e]
  exact List.Perm.refl _
 | succ n ih =>
  intro l h
  match l, h with
  | [], _ => exact List.Perm.refl _
  | [x], _ => exact List.Perm.refl _
  | x :: y :: l, h =>
   rw [mp, fl_cons, fl_cons, fl_cons, ← List.append_assoc]
   exact List.Perm.append (mrg_perm _ _) (ih l (by simp only [List.length_cons] at h; omega))
theorem mrg_sp (a b : List S71) (ha : SP a) (hb : SP b) : SP (mrg a b) := by
 have h := List.pairwise_merge (le := leR) (fun a b c h1 h2 => decide_eq_true (cmpR_trans a b c (of_decide_eq_true h1) (of_decide_eq_true h2)))
  (fun a b => by
   rcases cmpR_total a b with h | h
   ·simp [leR, h]
   ·simp [leR, h]) a b (ha.imp (fun h => decide_eq_true h)) (hb.imp (fun h => decide_eq_true h))
 exact h.imp (fun h => of_decide_eq_true h)
theorem mp_sp (n : Nat) : ∀ l : List S39, l.length ≤ n → (∀ x ∈ l, SP x.f0) → ∀ x ∈ mp l, SP x.f0 := by
 induction n with
 | zero =>
  intro l h hs x hx
  rw [List.eq_nil_of_length_eq_zero (show l.length = 0 by omega)] at hx
  cases hx
 | succ n ih =>
  intro l h hs z hz
  match l, h with
  | [], _ => cases hz
  | [x], _ =>
   obtain rfl : z = ⟨x.f0⟩ := by simpa [mp] using hz
   exact hs x List.mem_cons_self
  | x :: y :: l, h =>
   rw [mp] at hz
   rcases List.mem_cons.1 hz with rfl | hz
   ·exact mrg_sp _ _ (hs x List.mem_cons_self) (hs y (List.mem_cons_of_mem _ List.mem_cons_self))
   ·exact ih l (by simp only [List.length_cons] at h; omega) (fun u hu => hs u (List.mem_cons_of_mem _ (List.mem_cons_of_mem _ hu))) z hz
theorem drop_two (l : List S39) (i : Int) (h0 : 0 ≤ i) (h : i + 1 < (l.length : Int)) : l.drop i.toNat = rd_T39 l i :: rd_T39 l (i + 1) :: l.drop (i + 2).toNat := by
 have e1 : l.drop i.toNat = rd_T39 l i :: l.drop (i + 1).toNat := drop_getD l z39 i h0 (by omega)
 have e2 : l.drop (i + 1).toNat = rd_T39 l (i + 1) :: l.drop (i + 1 + 1).toNat := drop_getD l z39 (i + 1) (by omega) h
 rw [e1, e2, show i + 1 + 1 = i + 2 by omega]
theorem pass_spec_go (l : List S39) (T : Nat) (hl : l.length ≤ 1000000) (hT : T ≤ 1000000) (ho : ∀ x ∈ l, x.f0.length ≤ T) (d : Nat) : ∀ (k : Nat) (out : List S39) (i : Int), 0 ≤ i → (l.length : Int) - i ≤ d → out.length + d ≤ 2000000 → i ≤ 2000000 → d + 4 * T + 20 < k →
  y_r.l0 k l out i = some (out ++ mp (l.drop i.toNat)) := by
 induction d with
 | zero =>
  intro k out i h0 hd hq hi2 hk
  obtain ⟨k, rfl⟩ : ∃ m, k = m + 1 := ⟨k - 1, by omega⟩
  rw [y_r.l0, if_neg (by omega), drop_end l i (by omega), mp, List.append_nil]
 | succ d ih =>
  intro k out i h0 hd hq hi2 hk
  obtain ⟨k, rfl⟩ : ∃ m, k = m + 1 := ⟨k - 1, by omega⟩
  rw [y_r.l0]
  by_cases hi : i < (l.length : Int)
  ·have m1 : (rd_T39 l i).f0.length ≤ T := ho _ (getD_mem l z39 i h0 hi)
   rw [if_pos hi, wrap_id (x := i + 1) (by omega) (by omega), wrap_id (x := i + 2) (by omega) (by omega)]
   by_cases he : i + 1 = (l.length : Int)
   ·rw [if_pos he, Option.bind_some, if_pos h0, if_pos (by rw [List.length_nil]; omega), if_pos (by omega), ih k _ (i + 2) (by omega) (by omega) (by rw [List.length_append, List.length_singleton]; omega) (by omega) (by omega), drop_end l (i + 2) (by omega)]
    have e1 : l.drop i.toNat = rd_T39 l i :: l.drop (i + 1).toNat := drop_getD l z39 i h0 hi
    rw [e1, drop_end l (i + 1) (by omega), mp, mp, List.append_nil]
    rfl
   ·have m2 : (rd_T39 l (i + 1)).f0.length ≤ T := ho _ (getD_mem l z39 (i + 1) (by omega) (by omega))
    rw [if_neg he, if_pos h0, if_pos (by omega), if_pos (by omega), mrg_spec _ _ (by omega) k (by omega), Option.bind_some, if_pos (by omega), ih k _ (i + 2) (by omega) (by omega) (by rw [List.length_append, List.length_singleton]; omega) (by omega) (by omega), drop_two l i h0 (by omega), mp, List.append_assoc]
    rfl
  ·rw [if_neg hi, drop_end l i (by omega), mp, List.append_nil]
theorem pass_spec (l : List S39) (T : Nat) (hl : l.length ≤ 1000000) (hT : T ≤ 1000000) (ho : ∀ x ∈ l, x.f0.length ≤ T) (k : Nat) (hk : l.length + 4 * T + 20 < k) : y_r.f k l = some (mp l) := by
 unfold y_r.f
 exact pass_spec_go l T hl hT ho l.length k [] 0 (by omega) (by omega) (by rw [List.length_nil]; omega) (by omega) hk
theorem pass_impl_go (l : List S39) (T : Nat) (hl : l.length ≤ 1000000) (hT : T ≤ 1000000) (ho : ∀ x ∈ l, x.f0.length ≤ T) (d : Nat) : ∀ (k : Nat) (out : List S39) (i : Int), 0 ≤ i → (l.length : Int) - i ≤ d → out.length + d ≤ 2000000 → i ≤ 2000000 → d + 4 * T + 20 < k →
  y_k.l0 k l out i = some (out ++ mp (l.drop i.toNat)) := by
 induction d with
 | zero =>
  intro k out i h0 hd hq hi2 hk
  obtain ⟨k, rfl⟩ : ∃ m, k = m + 1 := ⟨k - 1, by omega⟩
  rw [y_k.l0, if_neg (by omega), drop_end l i (by omega), mp, List.append_nil]
 | succ d ih =>
  intro k out i h0 hd hq hi2 hk
  obtain ⟨k, rfl⟩ : ∃ m, k = m + 1 := ⟨k - 1, by omega⟩
  rw [y_k.l0]
  by_cases hi : i < (l.length : Int)
  ·have m1 : (rd_T39 l i).f0.length ≤ T := ho _ (getD_mem l z39 i h0 hi)
   rw [if_pos hi, wrap_id (x := i + 1) (by omega) (by omega), wrap_id (x := i + 2) (by omega) (by omega)]
   by_cases he : i + 1 = (l.length : Int)
   ·rw [if_pos he, if_pos h0, clone_eq _ (by omega), Option.bind_some, if_pos (by omega), ih k _ (i + 2) (by omega) (by omega) (by rw [List.length_append, List.length_singleton]; omega) (by omega) (by omega), drop_end l (i + 2) (by omega)]
    have e1 : l.drop i.toNat = rd_T39 l i :: l.drop (i + 1).toNat := drop_getD l z39 i h0 hi
    rw [e1, drop_end l (i + 1) (by omega), mp, mp, List.append_nil]
   ·have m2 : (rd_T39 l (i + 1)).f0.length ≤ T := ho _ (getD_mem l z39 (i + 1) (by omega) (by omega))
    rw [if_neg he, if_pos h0, if_pos (by omega), if_pos (by omega), mrg_impl _ _ (by omega) k (by omega), Option.bind_some, if_pos (by omega), ih k _ (i + 2) (by omega) (by omega) (by rw [List.length_append, List.length_singleton]; omega) (by omega) (by omega), drop_two l i h0 (by omega), mp, List.append_assoc]
    rfl
  ·rw [if_neg hi, drop_end l i (by omega), mp, List.append_nil]
theorem pass_impl (l : List S39) (T : Nat) (hl : l.length ≤ 1000000) (hT : T ≤ 1000000) (ho : ∀ x ∈ l, x.f0.length ≤ T) (k : Nat) (hk : l.length + 4 * T + 20 < k) : y_k.f k l = some (mp l) := by
 unfold y_k.f
 exact pass_impl_go l T hl hT ho l.length k [] 0 (by omega) (by omega) (by rw [List.length_nil]; omega) (by omega) hk
def pc (n : Nat) : Nat := if _h : n ≤ 1 then 0 else pc ((n + 1) / 2) + 1
termination_by n
decreasing_by omega
theorem pc_one (n : Nat) (h : n ≤ 1) : pc n = 0 := by
 rw [pc, dif_pos h]
theorem pc_more (n : Nat) (h : ¬ n ≤ 1) : pc n = pc ((n + 1) / 2) + 1 := by
 rw [pc, dif_neg h]
theorem pc_le (m : Nat) : ∀ n, n ≤ m → pc n ≤ n := by
 induction m with
 | zero =>
  intro n h
  rw [pc_one n (by omega)]
  omega
 | succ m ih =>
  intro n h
  by_cases h1 : n ≤ 1
  ·rw [pc_one n h1]
   omega
  ·rw [pc_more n h1]
   have := ih ((n + 1) / 2) (by omega)
   omega
theorem srt_nil : srt (fl []) = [] := List.Perm.eq_nil (srt_perm [])
theorem merge_go (T : Nat) (hT : T ≤ 1000000) (n : Nat) : ∀ (l : List S39) (k1 k2 : Nat) (p : Int), l.length ≤ n → n ≤ 1000000 → (fl l).length ≤ T → (∀ x ∈ l, SP x.f0) → 0 ≤ p → p + n ≤ 2000000 → (l.length = 0 → p = 0) → 2 * n + 4 * T + 30 < k1 → 2 * n + 4 * T + 30 < k2 →
  y_cb.l0 k1 l p = some (srt (fl l), p + (pc l.length : Nat), true) ∧ y_o.l0 k2 l p = some (srt (fl l), p + (pc l.length : Nat), true) := by
 induction n with
 | zero =>
  intro l k1 k2 p hn _ hf hs hp hp2 hz hk1 hk2
  obtain ⟨k1, rfl⟩ : ∃ m, k1 = m + 1 := ⟨k1 - 1, by omega⟩
  obtain ⟨k2, rfl⟩ : ∃ m, k2 = m + 1 := ⟨k2 - 1, by omega⟩
  have e := List.eq_nil_of_length_eq_zero (show l.length = 0 by omega)
  have hp0 := hz (by omega)
  subst e
  subst hp0
  have e2 : (([] : List S39).length : Int) = 0 := rfl
  rw [y_cb.l0, y_o.l0, e2, if_neg (show ¬ ((0 : Int) > 1) by omega), if_neg (show ¬ ((0 : Int) > 1) by omega), if_pos rfl, flat_impl [] (by rw [List.length_nil]; omega) (by simp [fl]) k2 (by rw [List.length_nil]; omega), pc_one _ (by rw [List.length_nil]; omega), srt_nil]
  exact ⟨rfl, rfl⟩
 | succ n ih =>
  intro l k1 k2 p hn hn2 hf hs hp hp2 hz hk1 hk2
  obtain ⟨k1, rfl⟩ : ∃ m, k1 = m + 1 := ⟨k1 - 1, by omega⟩
  obtain ⟨k2, rfl⟩ : ∃ m, k2 = m + 1 := ⟨k2 - 1, by omega⟩
  have ho : ∀ x ∈ l, x.f0.length ≤ T := fun x hx => Nat.le_trans (fl_mem l x hx) hf
  rw [y_cb.l0, y_o.l0]
  by_cases h1 : l.length ≤ 1
  ·rw [if_neg (show ¬ ((l.length : Int) > 1) by omega), if_neg (show ¬ ((l.length : Int) > 1) by omega), flat_impl l (by omega) (by omega) k2 (by omega), pc_one _ h1]
   match l, hs, hf, hz, h1 with
   | [], _, _, hz, _ =>
    have hp0 := hz rfl
    subst hp0
    rw [if_pos (show ((([] : List S39).length : Int)) = 0 from rfl), srt_nil]
    exact ⟨rfl, rfl⟩
   | [x], hs, hf, _, _ =>
    have e : srt (fl [x]) = x.f0 := by
     have e1 : fl [x] = x.f0 := by
      rw [fl_cons]
      exact List.append_nil _
     rw [e1]
     exact (srt_unique x.f0 x.f0 (hs x List.mem_cons_self) (List.Perm.refl _)).symm
    have e1 : fl [x] = x.f0 := by
     rw [fl_cons]
     exact List.append_nil _
    have hx := ho x
    rw [e, if_neg (by simp)]
    rw [e1] at hf
    simp only [Option.bind_some, List.length_singleton, List.length_nil]
    have er : rd_T39 [x] 0 = x := rfl
    rw [er, if_pos (by omega), if_pos (by omega), e1]
    constructor
    ·simp
    ·simp
  ·have hlen := mp_len l.length l (Nat.le_refl _)
   have hperm := mp_perm l.length l (Nat.le_refl _)
   rw [if_pos (show (l.length : Int) > 1 by omega), if_pos (show (l.length : Int) > 1 by omega), pass_spec l T (by omega) hT ho k1 (by omega), pass_impl l T (by omega) hT ho k2 (by omega)]
   simp only [Option.bind_some]
   rw [wrap_id (x := p + 1) (by omega) (by omega)]
   obtain ⟨g1, g2⟩ := ih (mp l) k1 k2 (p + 1) (by omega) (by omega) (by rw [hperm.length_eq]; exact hf) (mp_sp l.length l (Nat.le_refl _) hs) (by omega) (by omega) (fun h => by omega) (by omega) (by omega)
   rw [g1, g2, srt_congr _ _ hperm, hlen, pc_more l.length h1]
   have e : p + 1 + ((pc ((l.length + 1) / 2) : Nat) : Int) = p + ((pc ((l.length + 1) / 2) + 1 : Nat) : Int) := by omega
   rw [e]
   exact ⟨rfl, rfl⟩
theorem merge_both (l : List S39) (T : Nat) (hT : T ≤ 100000) (hl : l.length ≤ 100000) (hf : (fl l).length ≤ T) (k1 k2 : Nat) (hk1 : 1000000 < k1) (hk2 : 1000000 < k2) :
  y_cb.f k1 l = some (if l.all vRun = true then (srt (fl l), ((pc l.length : Nat) : Int), true) else ([], 0, false)) ∧ y_o.f k2 l = some (if l.all vRun = true then (srt (fl l), ((pc l.length : Nat) : Int), true) else ([], 0, false)) := by
 have ho : ∀ x ∈ l, x.f0.length ≤ T := fun x hx => Nat.le_trans (fl_mem l x hx) hf
 unfold y_cb.f y_o.f
 rw [vRuns_spec l T (by omega) (by omega) ho k1 (by omega), vRuns_impl l T (by omega) (by omega) ho k2 (by omega)]
 simp only [Option.bind_some]
 by_cases h : l.all vRun = true
 ·have hs : ∀ x ∈ l, SP x.f0 := by
   intro x hx
   have := (List.all_eq_true.1 h) x hx
   unfold vRun at this
   simp only [Bool.and_eq_true] at this
   exact (srtd_sp x.f0).1 this.2.1
  rw [if_pos h, if_pos h, if_pos h, cloneRuns_eq l (by omega) (fun x hx => by have := ho x hx; omega) k2 (by omega), Option.bind_some]
  obtain ⟨g1, g2⟩ := merge_go T (by omega) l.length l k1 k2 0 (Nat.le_refl _) (by omega) hf hs (by omega) (by omega) (fun _ => rfl) (by omega) (by omega)
  rw [Int.zero_add] at g1 g2
  exact ⟨g1, g2⟩
 ·rw [if_neg h, if_neg h, if_neg h]
  exact ⟨rfl, rfl⟩
theorem post_ok (l : List S71) (mem : Int) (R : List S39) (hv : vRows l = true) (p : Post l mem R) : R.all vRun = true := by
 rw [List.all_eq_true]
 intro r hr
 have hl : l.length ≤ 24 ∧ l.all vRow = true := by
  unfold vRows at hv
  rw [Bool.and_eq_true, decide_eq_true_eq] at hv
  exact ⟨hv.2, hv.1⟩
 have h1 := fl_mem R r hr
 have h2 := p.perm.length_eq
 obtain ⟨h3, h4⟩ := p.runs r hr
 have h5 : vRows r.f0 = true := by
  unfold vRows
  rw [Bool.and_eq_true, decide_eq_true_eq, List.all_eq_true]
  refine ⟨fun x hx => ?_, by omega⟩
  have : x ∈ fl R := by
   unfold fl
   exact List.mem_flatMap.2 ⟨r, hr, hx⟩
  exact (List.all_eq_true.1 hl.2) x (p.perm.subset this)
 have h6 : decide (r.f0.length = 0) = false := decide_eq_false (fun e => h3 (List.eq_nil_of_length_eq_zero e))
 have h7 : srtd r.f0 = true := (srtd_sp r.f0).2 h4
 unfold vRun
 rw [h6, h7, h5]
 rfl
theorem ext_both (l : List S71) (hl : l.length ≤ 1000000000) (mem : Int) (k1 k2 : Nat) (hk1 : l.length + 2000000 < k1) (hk2 : l.length + 2000000 < k2) :
  ∃ (r : List S71) (c : Int) (ok : Bool), y_pb.f k1 l mem = some (r, c, ok) ∧ y_ab.f k2 l mem = some (r, c, ok) ∧ r.length ≤ l.length ∧ (ok = true → r = srt l ∧ l.length ≤ 24 ∧ ∃ n : Nat, n ≤ l.length ∧ c = tot l * (((pc n : Nat) : Int) + 1)) := by
 obtain ⟨R, ok, e1, e2, hok, hno, hyes⟩ := rsel_both l hl mem k1 k2 (by omega) (by omega)
 unfold y_pb.f y_ab.f
 rw [e1, e2]
 simp only [Option.bind_some]
 cases ok with
 | false =>
  rw [if_neg Bool.false_ne_true, if_neg Bool.false_ne_true]
  exact ⟨[], 0, false, rfl, rfl, Nat.zero_le _, fun h => absurd h Bool.false_ne_true⟩
 | true =>
  have p := hyes rfl
  have h := hok.symm
  rw [Bool.and_eq_true, decide_eq_true_eq] at h
  have hl24 := h.1
  unfold vRows at hl24
  rw [Bool.and_eq_true, decide_eq_true_eq] at hl24
  have h1 := p.perm.length_eq
  have h2 := fl_len R (fun r hr => (p.runs r hr).1)
  obtain ⟨g1, g2⟩ := merge_both R 24 (by omega) (by omega) (by omega) k1 k2 (by omega) (by omega)
  rw [if_pos (post_ok l mem R h.1 p)] at g1 g2
  have hp := pc_le R.length R.length (Nat.le_refl _)
  have ht := tot_bd l
  rw [if_pos rfl, if_pos rfl, g1, g2]
  simp only [Option.bind_some]
  rw [if_true, tot_spec l (by omega) k1 (by omega), tot_impl l (by omega) k2 (by omega)]
  simp only [Option.bind_some]
  rw [wrap_id (x := ((pc R.length : Nat) : Int) + 1) (by omega) (by omega)]
  have m1 : tot l * (((pc R.length : Nat) : Int) + 1) ≤ 96 * 25 := Int.mul_le_mul (by omega) (by omega) (by omega) (by omega)
  have m0 : 0 ≤ tot l * (((pc R.length : Nat) : Int) + 1) := Int.mul_nonneg (by omega) (by omega)
  rw [wrap_id (by omega) (by omega), srt_congr _ _ p.perm]
  exact ⟨srt l, _, true, rfl, rfl, by rw [srt_len]; exact Nat.le_refl _, fun _ => ⟨rfl, hl24.2, R.length, by omega, rfl⟩⟩
def mks (n : Int) : Nat → List S71
 | 0 => []
 | d + 1 => ⟨n, n + 1, n + 2⟩ :: mks (n + 3) d
theorem mks_len (d : Nat) : ∀ n, (mks n d).length = d := by
 induction d with
 | zero => intro n; rfl
 | succ d ih => intro n; simp only [mks, List.length_cons, ih]
theorem rd_set (l : List S71) (i : Int) (x : S71) (h0 : 0 ≤ i) (h : i < (l.length : Int)) : rd_T71 (l.set i.toNat x) i = x := by
 have hi : i.toNat < l.length := by omega
 unfold rd_T71
 rw [List.getD_eq_getElem?_getD, List.getElem?_set_self hi]
 rfl
theorem mark_go (d : Nat) : ∀ (k : Nat) (l : List S71) (n i : Int), 0 ≤ i → i ≤ l.length → l.length ≤ 1000000000000 → 0 ≤ n → n + 3 * d ≤ 9000000000000000000 → (l.length : Int) - i = d → d < k →
  y_x.l0 k l n i = some (n + 3 * d, l.take i.toNat ++ mks n d) := by
 induction d with
 | zero =>
  intro k l n i h0 h1 hl hn hn2 hd hk
  obtain ⟨k, rfl⟩ : ∃ m, k = m + 1 := ⟨k - 1, by omega⟩
  simp only [y_x.l0]
  rw [if_neg (by omega), List.take_of_length_le (by omega)]
  simp [mks]
 | succ d ih =>
  intro k l n i h0 h1 hl hn hn2 hd hk
  obtain ⟨k, rfl⟩ : ∃ m, k = m + 1 := ⟨k - 1, by omega⟩
  simp only [y_x.l0]
  rw [if_pos (by omega), if_pos h0]
  simp only [Option.bind_some]
  rw [wrap_succ h0 (n := l.length) (by omega) (by omega), wrap_id (x := n + 1) (by omega) (by omega), wrap_id (x := n + 1 + 1) (by omega) (by omega), wrap_id (x := n + 1 + 1 + 1) (by omega) (by omega)]
  have e0 : ∀ x, rd_T71 (l.set i.toNat x) i = x := fun x => rd_set l i x h0 (by omega)
  simp only [e0, List.set_set]
  rw [ih k _ (n + 1 + 1 + 1) (i + 1) (by omega) (by rw [List.length_set]; omega) (by rw [List.length_set]; omega) (by omega) (by omega) (by rw [List.length_set]; omega) (by omega)]
  have hi : i.toNat < l.length := by omega
  have e : List.take (i + 1).toNat (l.set i.toNat ⟨n, n + 1, n + 1 + 1⟩) = l.take i.toNat ++ [⟨n, n + 1, n + 1 + 1⟩] := by
   rw [show (i + 1).toNat = i.toNat + 1 by omega, List.take_add_one, List.take_set_of_le (by omega), List.getElem?_set_self hi]
   rfl
  rw [e]
  simp only [mks]
  rw [show n + 1 + 1 + 1 = n + 3 by omega, show n + 1 + 1 = n + 2 by omega, List.append_assoc]
  congr 2
  omega
theorem mark_eq (l : List S71) (hl : l.length ≤ 1000000000000) (n : Int) (hn : 0 ≤ n) (hn2 : n + 3 * l.length ≤ 9000000000000000000) (k : Nat) (hk : l.length < k) :
  y_x.f k l n = some (n + 3 * l.length, mks n l.length) := by
 unfold y_x.f
 rw [mark_go l.length k l n 0 (by omega) (by omega) hl hn hn2 (by omega) hk]
 simp
theorem held_go (d : Nat) : ∀ (k : Nat) (l : List S71) (n i : Int), 0 ≤ i → i ≤ l.length → l.length ≤ 1000000000000 → 0 ≤ n → n + 3 * d ≤ 9000000000000000000 → (l.length : Int) - i = d → d < k →
  l.drop i.toNat = mks n d → y_db.l0 k l n i = some (n + 3 * d) := by
 induction d with
 | zero =>
  intro k l n i h0 h1 hl hn hn2 hd hk _
  obtain ⟨k, rfl⟩ : ∃ m, k = m + 1 := ⟨k - 1, by omega⟩
  simp only [y_db.l0]
  rw [if_neg (by omega)]
  simp
 | succ d ih =>
  intro k l n i h0 h1 hl hn hn2 hd hk hm
  obtain ⟨k, rfl⟩ : ∃ m, k = m + 1 := ⟨k - 1, by omega⟩
  rw [drop_getD l z71 i h0 (by omega)] at hm
  simp only [mks] at hm
  obtain ⟨e1, e2⟩ := List.cons.inj hm
  have e3 : rd_T71 l i = ⟨n, n + 1, n + 2⟩ := e1
  simp only [y_db.l0]
  rw [if_pos (by omega), if_pos h0, e3]
  simp only
  rw [if_true, wrap_succ h0 (n := l.length) (by omega) (by omega), wrap_id (x := n + 1) (by omega) (by omega), wrap_id (x := n + 1 + 1) (by omega) (by omega), wrap_id (x := n + 1 + 1 + 1) (by omega) (by omega), if_pos rfl, if_pos (by omega)]
  rw [ih k l (n + 1 + 1 + 1) (i + 1) (by omega) (by omega) hl (by omega) (by omega) (by omega) (by omega) (by rw [e2]; congr 1; omega)]
  congr 1
  omega
theorem held_eq (n : Int) (d : Nat) (hd : d ≤ 1000000000000) (hn : 0 ≤ n) (hn2 : n + 3 * d ≤ 9000000000000000000) (k : Nat) (hk : d < k) : y_db.f k (mks n d) n = some (n + 3 * d) := by
 unfold y_db.f
 have hl := mks_len d n
 exact held_go d k (mks n d) n 0 (by omega) (by omega) (by omega) hn hn2 (by omega) hk rfl
def toR (x : S118) : S71 := ⟨x.f0, x.f1, x.f2⟩
theorem szRowS_no (l : List S118) (n : Int) (h0 : 0 ≤ n) (h1 : n ≤ 1048576) (hl : l.length ≤ 9223372036854775807) (h : n < l.length) : y_nb.f l n = some (-1) := by
 unfold y_nb.f
 rw [if_pos (by unfold wrap64; omega)]
theorem szRowS_yes (l : List S118) (n : Int) (h0 : 0 ≤ n) (h1 : n ≤ 1048576) (h : (l.length : Int) ≤ n) : y_nb.f l n = some (n - l.length) := by
 unfold y_nb.f
 rw [if_neg (by unfold wrap64; omega)]
 congr 1
 unfold wrap64
 omega
theorem toRowS_go (l : List S118) (hl : l.length ≤ 1048576) (d : Nat) : ∀ (k : Nat) (acc : List S71) (i : Int), 0 ≤ i → i ≤ l.length → acc.length = l.length → acc.take i.toNat = (l.map toR).take i.toNat → (l.length : Int) - i = d → d < k →
  y_p.l0 k l acc i = some (l.map toR) := by
 induction d with
 | zero =>
  intro k acc i h0 h1 ha ht hd hk
  obtain ⟨k, rfl⟩ : ∃ m, k = m + 1 := ⟨k - 1, by omega⟩
  simp only [y_p.l0]
  rw [if_neg (by omega)]
  exact congrArg some (take_all acc _ i (by omega) (by rw [List.length_map]; exact ha) ht)
 | succ d ih =>
  intro k acc i h0 h1 ha ht hd hk
  obtain ⟨k, rfl⟩ : ∃ m, k = m + 1 := ⟨k - 1, by omega⟩
  simp only [y_p.l0]
  rw [if_pos (by omega), if_pos h0]
  simp only [y_sb.f, Option.bind_some]
  rw [if_pos (by omega), wrap_succ h0 (n := l.length) (by omega) (by omega)]
  exact ih k _ (i + 1) (by omega) (by omega) (by rw [List.length_set]; exact ha) (take_set_succ toR l acc z118 i h0 (by omega) ha ht) (by omega) (by omega)
theorem toRowS_eq (l : List S118) (hl : l.length ≤ 1048576) (k : Nat) (hk : l.length < k) : y_p.f k l = some (l.map toR) := by
 unfold y_p.f
 rw [if_pos (by omega), if_pos (by omega)]
 exact toRowS_go l hl l.length k _ 0 (by omega) (by omega) (by simp) rfl (by omega) hk
theorem eqRow_self (x : S71) : y_rb.f x.f0 x.f1 x.f2 x.f0 x.f1 x.f2 = some true := by
 simp [y_rb.f]
theorem eqRowS_go (l : List S71) (hl : l.length ≤ 9223372036854775807) (d : Nat) : ∀ (k : Nat) (i : Int), 0 ≤ i → i ≤ l.length → (l.length : Int) - i = d → d < k → y_e.l0 k l l i = some true := by
 induction d with
 | zero =>
  intro k i h0 h1 hd hk
  obtain ⟨k, rfl⟩ : ∃ m, k = m + 1 := ⟨k - 1, by omega⟩
  simp only [y_e.l0]
  rw [if_neg (by omega)]
 | succ d ih =>
  intro k i h0 h1 hd hk
  obtain ⟨k, rfl⟩ : ∃ m, k = m + 1 := ⟨k - 1, by omega⟩
  simp only [y_e.l0]
  rw [if_pos (by omega), if_pos h0, if_pos (by omega), eqRow_self]
  simp only [Option.bind_some, if_true]
  rw [wrap_succ h0 (n := l.length) (by omega) (by omega)]
  exact ih k (i + 1) (by omega) (by omega) (by omega) (by omega)
theorem eqRowS_self (l : List S71) (hl : l.length ≤ 9223372036854775807) (k : Nat) (hk : l.length < k) : y_e.f k l l = some true := by
 unfold y_e.f
 rw [if_pos rfl]
 exact eqRowS_go l hl l.length k 0 (by omega) (by omega) (by omega) hk
end Go.Proofs.Ytkcicbigpbdjpaa.Pure
end
section
namespace Go.Proofs.Ytkcicbigpbdjpaa.Pure
open Go.RowKit Go.Proofs.Ytkcicbigpbdjpaa.P Go.Proofs.Ytkcicbigpbdjpaa.StFnExactExternalSort Go.Proofs.YtkcicbigpbdjpaaW.PrintWords Go.Proofs.YtkcicbigpbdjpaaW.PrintLast Go.Proofs.Ytkcicbigpbdjpaa.Opn
theorem ext_up (a : List S71) (x : Int) (v : List S71 × Int × Bool) (k : Nat) (h : y_ab.f k a x = some v) (n : Nat) : y_ab.f (k + n) a x = some v := by
 induction n with
 | zero => exact h
 | succ n ih => exact (y_ab.mono a x (k + n)) v ih
theorem FnExactExternalSort : StFnExactExternalSort.Pure := by
 intro l x h hx
 by_cases b0 : (1048576 : Int) < l.length
 ·refine ⟨0, ?_⟩
  unfold y_c.f
  rw [szRowS_no l 1048576 (by omega) (by omega) h.1 b0]
  rfl
 have s0 := szRowS_yes l 1048576 (by omega) (by omega) (by omega)
 have n0 : ¬ ((1048576 : Int) - l.length < 0) := by omega
 have la : (l.map toR).length = l.length := List.length_map _
 obtain ⟨m, hm⟩ : ∃ m : Nat, m = 10000000 := ⟨_, rfl⟩
 have t0 := fun k hk => toRowS_eq l (by omega) k hk
 generalize l.map toR = a at *
 obtain ⟨r, c, ok, sp, im0, hr, _⟩ := ext_both a (by omega) x (m + 3) m (by omega) (by omega)
 have im := ext_up a x (r, c, ok) m im0 3
 have im1 := ext_up a x (r, c, ok) m im0 1
 have ea := eqRowS_self a (by omega) (m + 2) (by omega)
 have er3 := eqRowS_self r (by omega) (m + 3) (by omega)
 have er2 := eqRowS_self r (by omega) (m + 2) (by omega)
 have er1 := eqRowS_self r (by omega) (m + 1) (by omega)
 have ma := mark_eq a (by omega) 1 (by omega) (by omega) (m + 2) (by omega)
 have mm := mark_eq r (by omega) 1 (by omega) (by omega) (m + 1) (by omega)
 have hd := held_eq 1 r.length (by omega) (by omega) (by omega) (m + 1) (by omega)
 have hd0 := held_eq 1 r.length (by omega) (by omega) (by omega) m (by omega)
 have c1 : ¬ ((1 : Int) + 3 * a.length < 0) := by omega
 have c2 : ¬ ((1 : Int) + 3 * r.length < 0) := by omega
 refine ⟨m + 3, ?_⟩
 unfold y_c.f
 simp only [s0, n0, t0 (m + 3) (by omega), sp, im, er3, Option.bind_some, if_true, if_false, bne_self_eq_false]
 rw [y_c.j0, if_neg Bool.false_ne_true]
 simp only [t0 (m + 2) (by omega), ea, ma, c1, er2, Option.bind_some, if_true, if_false, bne_self_eq_false]
 rw [y_c.j1, if_neg Bool.false_ne_true]
 simp only [mm, hd, c2, t0 (m + 1) (by omega), im1, er1, Option.bind_some, if_true, if_false, bne_self_eq_false]
 rw [y_c.j2, if_neg Bool.false_ne_true]
 simp only [hd0, c2, Option.bind_some, if_true, if_false]
end Go.Proofs.Ytkcicbigpbdjpaa.Pure
end
