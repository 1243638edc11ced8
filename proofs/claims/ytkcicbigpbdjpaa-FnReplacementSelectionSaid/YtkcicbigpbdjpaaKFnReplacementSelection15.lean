-- merged by pack.py out of SortS MinS RSel RSelW Flat Draw DrawR DrawN VRuns Fmt FmtR FmtN PureFnReplacementSelection WSized (words: printed by the kit's print.sh; what this claim does not use is left out)
import Derived.ChangeSlices
import Derived.SizedLaws
import Derived.Test.YtkcicbigpbdjpaaKFnReplacementSelection1
import Derived.Test.YtkcicbigpbdjpaaKFnReplacementSelection2
import Derived.Test.YtkcicbigpbdjpaaKFnReplacementSelection3
import Derived.Test.YtkcicbigpbdjpaaKFnReplacementSelection4
import Derived.Test.YtkcicbigpbdjpaaKFnReplacementSelection5
import Derived.Test.YtkcicbigpbdjpaaKFnReplacementSelection6
import Derived.Test.YtkcicbigpbdjpaaKFnReplacementSelection7
import Derived.Test.YtkcicbigpbdjpaaKFnReplacementSelection8
import Derived.Test.YtkcicbigpbdjpaaKFnReplacementSelection9
import Derived.Test.YtkcicbigpbdjpaaKFnReplacementSelection10
import Derived.Test.YtkcicbigpbdjpaaKFnReplacementSelection11
import Derived.Test.YtkcicbigpbdjpaaKFnReplacementSelection12
import Derived.Test.YtkcicbigpbdjpaaKFnReplacementSelection13
import Derived.Test.YtkcicbigpbdjpaaKFnReplacementSelection14
section
namespace Go.Proofs.Ytkcicbigpbdjpaa.Pure
open Go.RowKit Go.Proofs.Ytkcicbigpbdjpaa.P Go.Proofs.YtkcicbigpbdjpaaW.PrintWords Go.Proofs.YtkcicbigpbdjpaaW.PrintLast
def SP (l : List S71) : Prop := l.Pairwise (fun a b => cmpR a b ≤ 0)
def leS (x y : S71) : Bool := decide (cmpR x y ≤ 0)
def srt (l : List S71) : List S71 := l.mergeSort leS
theorem srt_perm (l : List S71) : (srt l).Perm l := List.mergeSort_perm l leS
theorem srt_len (l : List S71) : (srt l).length = l.length := (srt_perm l).length_eq
theorem srt_sp (l : List S71) : SP (srt l) := by
 have h := List.pairwise_mergeSort (le := leS) (fun a b c h1 h2 => decide_eq_true (cmpR_trans a b c (of_decide_eq_true h1) (of_decide_eq_true h2)))
  (fun a b => by
   rcases cmpR_total a b with h | h
   ·simp [leS, h]
   ·simp [leS, h]) l
 exact h.imp (fun h => of_decide_eq_true h)
theorem sp_unique (a b : List S71) (ha : SP a) (hb : SP b) (h : a.Perm b) : a = b :=
 List.Perm.eq_of_pairwise (le := fun a b => cmpR a b ≤ 0) (fun x y _ _ h1 h2 => cmpR_zero x y (by have := cmpR_anti x y; omega)) ha hb h
theorem srt_unique (a l : List S71) (ha : SP a) (h : a.Perm l) : a = srt l := sp_unique a (srt l) ha (srt_sp l) (h.trans (srt_perm l).symm)
theorem srt_congr (a b : List S71) (h : a.Perm b) : srt a = srt b := srt_unique (srt a) b (srt_sp a) ((srt_perm a).trans h)
theorem sp_ins (l : List S71) (x : S71) (m : Nat) (hs : SP l) (hg : ∀ y ∈ l.drop m, 0 < cmpR y x) (hl : ∀ y ∈ l.take m, cmpR y x ≤ 0) : SP (l.take m ++ x :: l.drop m) := by
 unfold SP at *
 rw [← List.take_append_drop m l, List.pairwise_append] at hs
 rw [List.pairwise_append]
 refine ⟨hs.1, List.pairwise_cons.2 ⟨fun y hy => ?_, hs.2.1⟩, fun a ha b hb => ?_⟩
 ·have := hg y hy
  have := cmpR_anti x y
  omega
 ·rcases List.mem_cons.1 hb with rfl | hb
  ·exact hl a ha
  ·exact hs.2.2 a ha b hb
theorem getD_le (l : List S71) (hs : SP l) (j : Nat) (hj : j < l.length) (x : S71) (h : cmpR (l.getD j z71) x ≤ 0) : ∀ y ∈ l.take (j + 1), cmpR y x ≤ 0 := by
 intro y hy
 unfold SP at hs
 rw [List.take_add_one, List.getElem?_eq_getElem hj] at hy
 have e : l.getD j z71 = l[j] := by
  rw [List.getD_eq_getElem?_getD, List.getElem?_eq_getElem hj]
  rfl
 rw [e] at h
 rcases List.mem_append.1 hy with h1 | h1
 ·rw [← List.take_append_drop j l, List.pairwise_append] at hs
  have hm : l[j] ∈ l.drop j := by
   rw [List.drop_eq_getElem_cons hj]
   exact List.mem_cons_self
  exact cmpR_trans y l[j] x (hs.2.2 y h1 _ hm) h
 ·have : y = l[j] := by simpa using h1
  rw [this]
  exact h
theorem ins_go (l acc : List S71) (i : Int) (h0 : 0 ≤ i) (h1 : i < l.length) (ha : acc.length < 1000000000) (hs : SP acc) (k : Nat) (hk : 4 ≤ k) (j : Nat) : j ≤ acc.length → (∀ y ∈ acc.drop j, 0 < cmpR y (rd_T71 l i)) →
  ∃ m, m ≤ j ∧ y_d.l1 (k + j + 1) l acc i (j : Int) = y_d.l0 (k + m) l (acc.take m ++ rd_T71 l i :: acc.drop m) (wrap64 (i + 1)) ∧ SP (acc.take m ++ rd_T71 l i :: acc.drop m) := by
 induction j with
 | zero =>
  intro hj hg
  refine ⟨0, Nat.le_refl 0, ?_, sp_ins acc _ 0 hs hg (fun y hy => by simp at hy)⟩
  rw [y_d.l1, if_neg (by omega), if_pos h0, if_pos h1]
  simp only [Option.bind_some]
  rw [if_pos (by omega), if_pos (by omega)]
  simp only [List.length_cons, List.length_nil, List.length_append, List.length_drop, List.length_take, List.nil_append]
  rw [if_pos (by omega), if_pos (by omega), if_pos (by omega)]
  rfl
 | succ j ih =>
  intro hj hg
  have hw : wrap64 (((j + 1 : Nat) : Int) - 1) = (j : Int) := by rw [wrap_id (by omega) (by omega)]; omega
  have e : rd_T71 acc (j : Int) = acc.getD j z71 := rfl
  rw [show k + (j + 1) + 1 = (k + j + 1) + 1 by omega, y_d.l1, hw, if_pos (by omega), if_pos (by omega), if_pos (by omega), if_pos h0, if_pos h1, cmp_spec _ _ _ (by omega)]
  simp only [Option.bind_some]
  by_cases hc : cmpR (rd_T71 acc (j : Int)) (rd_T71 l i) > 0
  ·rw [if_pos hc]
   obtain ⟨m, hm, he, hp⟩ := ih (by omega) (fun y hy => by
    rw [List.drop_eq_getElem_cons (show j < acc.length by omega)] at hy
    rcases List.mem_cons.1 hy with h | h
    ·rw [e, List.getD_eq_getElem?_getD, List.getElem?_eq_getElem (show j < acc.length by omega)] at hc
     rw [h]
     exact hc
    ·exact hg y h)
   exact ⟨m, by omega, he, hp⟩
  ·rw [if_neg hc]
   refine ⟨j + 1, Nat.le_refl _, ?_, sp_ins acc _ (j + 1) hs hg (getD_le acc hs j (by omega) _ (by rw [← e]; omega))⟩
   rw [if_pos (by omega), if_pos (by omega)]
   simp only [List.length_cons, List.length_nil, List.length_append, List.length_drop, List.length_take, List.nil_append]
   rw [if_pos (by omega), if_pos (by omega), if_pos (by omega)]
   rfl
theorem sort_go (l : List S71) (hl : l.length ≤ 100000000) (W : Nat) (hW : l.length + 10 ≤ W) (d : Nat) : ∀ (k : Nat) (acc : List S71) (i : Int), 0 ≤ i → i ≤ l.length → acc.length = i.toNat → SP acc → (l.length : Int) - i = d → d * W + W < k →
  ∃ r, y_d.l0 k l acc i = some r ∧ SP r ∧ r.Perm (acc ++ l.drop i.toNat) := by
 induction d with
 | zero =>
  intro k acc i h0 h1 ha hs hd hk
  obtain ⟨k, rfl⟩ : ∃ m, k = m + 1 := ⟨k - 1, by omega⟩
  rw [y_d.l0, if_neg (by omega), drop_end l i (by omega), List.append_nil]
  exact ⟨acc, rfl, hs, List.Perm.refl _⟩
 | succ d ih =>
  intro k acc i h0 h1 ha hs hd hk
  have hm : (d + 1) * W = d * W + W := Nat.succ_mul d W
  obtain ⟨k, rfl⟩ : ∃ m, k = (m + acc.length + 1) + 1 := ⟨k - acc.length - 2, by omega⟩
  obtain ⟨m, hm1, he, hp⟩ := ins_go l acc i h0 (by omega) (by omega) hs k (by omega) acc.length (Nat.le_refl _) (fun y hy => by simp at hy)
  rw [y_d.l0, if_pos (by omega), he, wrap_succ h0 (n := l.length) (by omega) (by omega)]
  have hpm : (acc.take m ++ rd_T71 l i :: acc.drop m).Perm (acc ++ [rd_T71 l i]) := by
   refine List.perm_middle.trans ?_
   rw [List.take_append_drop]
   exact (List.perm_append_singleton _ _).symm
  obtain ⟨r, hr, hrs, hrp⟩ := ih (k + m) _ (i + 1) (by omega) (by omega) (by rw [hpm.length_eq, List.length_append, List.length_singleton]; omega) hp (by omega) (by omega)
  refine ⟨r, hr, hrs, hrp.trans ((hpm.append_right _).trans ?_)⟩
  rw [drop_getD l z71 i h0 (by omega), List.append_assoc]
  exact List.Perm.refl _
theorem sort_spec (l : List S71) (hl : l.length ≤ 100000000) (k : Nat) (hk : l.length * (l.length + 10) + (l.length + 10) < k) : y_d.f k l = some (srt l) := by
 unfold y_d.f
 obtain ⟨r, hr, hs, hp⟩ := sort_go l hl (l.length + 10) (Nat.le_refl _) l.length k [] 0 (by omega) (by omega) rfl List.Pairwise.nil (by omega) hk
 rw [hr]
 exact congrArg some (srt_unique r l hs (by simpa using hp))
theorem take_succ_rd (l : List S71) (i : Int) (h0 : 0 ≤ i) (h : i < (l.length : Int)) : l.take (i + 1).toNat = l.take i.toNat ++ [rd_T71 l i] := by
 have hi : i.toNat < l.length := by omega
 rw [show (i + 1).toNat = i.toNat + 1 by omega, List.take_add_one, List.getElem?_eq_getElem hi]
 unfold rd_T71
 rw [List.getD_eq_getElem?_getD, List.getElem?_eq_getElem hi]
 rfl
theorem min_go (l : List S71) (hl : l.length ≤ 9223372036854775807) (d : Nat) : ∀ (k : Nat) (b i : Int), 0 ≤ i → i ≤ l.length → -1 ≤ b → b < i → (b < 0 → i = 0) → (∀ y ∈ l.take i.toNat, cmpR (rd_T71 l b) y ≤ 0) → (l.length : Int) - i = d → d + 5 < k →
  ∃ r, y_e.l0 k l b i = some r ∧ y_f.l0 k l b l (l.length : Int) i = some r ∧ -1 ≤ r ∧ r < l.length ∧ (r < 0 → l.length = 0) ∧ (∀ y ∈ l, cmpR (rd_T71 l r) y ≤ 0) := by
 induction d with
 | zero =>
  intro k b i h0 h1 hb0 hb1 hb2 hm hd hk
  obtain ⟨k, rfl⟩ : ∃ m, k = m + 1 := ⟨k - 1, by omega⟩
  rw [y_e.l0, y_f.l0, if_neg (by omega), if_neg (by omega)]
  rw [List.take_of_length_le (by omega)] at hm
  exact ⟨b, rfl, rfl, hb0, by omega, fun h => by have := hb2 h; omega, hm⟩
 | succ d ih =>
  intro k b i h0 h1 hb0 hb1 hb2 hm hd hk
  obtain ⟨k, rfl⟩ : ∃ m, k = m + 1 := ⟨k - 1, by omega⟩
  have hT := take_succ_rd l i h0 (by omega)
  rw [y_e.l0, y_f.l0, if_pos (show i < (l.length : Int) by omega), if_pos (show i < (l.length : Int) by omega), if_pos h0, if_pos h0, if_pos (show i < (l.length : Int) by omega), wrap_succ h0 (n := l.length) (by omega) (by omega)]
  by_cases hb : b < 0
  ·rw [if_pos hb, if_pos hb]
   refine ih k i (i + 1) (by omega) (by omega) (by omega) (by omega) (fun h => by omega) (fun y hy => ?_) (by omega) (by omega)
   have hi := hb2 hb
   subst hi
   rw [hT] at hy
   have : y = rd_T71 l 0 := by simpa using hy
   rw [this, cmpR_self]
   exact Int.le_refl 0
  ·rw [if_neg hb, if_neg hb, if_pos (show 0 ≤ b by omega), if_pos (show 0 ≤ b by omega), if_pos (show b < (l.length : Int) by omega), if_pos (show b < (l.length : Int) by omega), cmp_spec _ _ k (by omega), cmp_impl]
   simp only [Option.bind_some]
   by_cases hc : cmpR (rd_T71 l i) (rd_T71 l b) < 0
   ·rw [if_pos hc, if_pos hc]
    refine ih k i (i + 1) (by omega) (by omega) (by omega) (by omega) (fun h => by omega) (fun y hy => ?_) (by omega) (by omega)
    rw [hT] at hy
    rcases List.mem_append.1 hy with h | h
    ·exact cmpR_trans _ _ _ (by omega) (hm y h)
    ·have : y = rd_T71 l i := by simpa using h
     rw [this, cmpR_self]
     exact Int.le_refl 0
   ·rw [if_neg hc, if_neg hc]
    refine ih k b (i + 1) (by omega) (by omega) hb0 (by omega) (fun h => by omega) (fun y hy => ?_) (by omega) (by omega)
    rw [hT] at hy
    rcases List.mem_append.1 hy with h | h
    ·exact hm y h
    ·have : y = rd_T71 l i := by simpa using h
     rw [this]
     have := cmpR_anti (rd_T71 l i) (rd_T71 l b)
     omega
theorem min_both (l : List S71) (hl : l.length ≤ 9223372036854775807) (k1 k2 : Nat) (hk1 : l.length + 5 < k1) (hk2 : l.length + 5 < k2) :
  ∃ r, y_e.f k1 l = some r ∧ y_f.f k2 l = some r ∧ -1 ≤ r ∧ r < l.length ∧ (r < 0 → l.length = 0) ∧ (∀ y ∈ l, cmpR (rd_T71 l r) y ≤ 0) := by
 obtain ⟨r, h1, h2, h⟩ := min_go l hl l.length k1 (-1) 0 (by omega) (by omega) (by omega) (by omega) (fun _ => rfl) (fun y hy => by simp at hy) (by omega) hk1
 obtain ⟨s, g1, g2, g⟩ := min_go l hl l.length k2 (-1) 0 (by omega) (by omega) (by omega) (by omega) (fun _ => rfl) (fun y hy => by simp at hy) (by omega) hk2
 obtain ⟨q, e1, e2, e⟩ := min_go l hl l.length (k1 + k2) (-1) 0 (by omega) (by omega) (by omega) (by omega) (fun _ => rfl) (fun y hy => by simp at hy) (by omega) (by omega)
 have m1 : ∀ n, y_e.f (k1 + n) l = some r := by
  intro n
  induction n with
  | zero => exact h1
  | succ n ih => exact (y_e.mono l (k1 + n)) r ih
 have m2 : ∀ n, y_f.f (k2 + n) l = some s := by
  intro n
  induction n with
  | zero => exact g2
  | succ n ih => exact (y_f.mono l (k2 + n)) s ih
 have a1 : r = q := Option.some.inj ((m1 k2).symm.trans e1)
 have a2 : s = q := Option.some.inj ((m2 k1).symm.trans (by rw [Nat.add_comm]; exact e2))
 exact ⟨r, h1, by rw [a1, ← a2]; exact g2, h⟩
def out1 (l : List S71) (i : Int) : List S71 := l.take i.toNat ++ l.drop (i + 1).toNat
theorem out1_perm (l : List S71) (i : Int) (h0 : 0 ≤ i) (h : i < (l.length : Int)) : l.Perm (rd_T71 l i :: out1 l i) := by
 have e : l = l.take i.toNat ++ rd_T71 l i :: l.drop (i + 1).toNat := by
  have := drop_getD l z71 i h0 h
  have e2 : l.getD i.toNat z71 = rd_T71 l i := rfl
  rw [← e2, ← this, List.take_append_drop]
 exact (List.Perm.of_eq e).trans List.perm_middle
theorem drop1_spec (l : List S71) (i : Int) (h0 : 0 ≤ i) (h : i < (l.length : Int)) (hl : l.length ≤ 1000000000) : y_pb.f l i = some (out1 l i) := by
 unfold y_pb.f out1
 simp only [Option.bind_some, List.nil_append, List.length_nil, List.length_take, List.length_drop, List.length_append]
 rw [wrap_succ h0 (n := l.length) h (by omega), if_pos h0, if_pos (by omega), if_pos (by omega), if_pos (by omega), if_pos (by omega), if_pos (by omega)]
theorem clone_eq (l : List S71) (hl : l.length ≤ 1000000000) : y_bc.f l = some l := by
 unfold y_bc.f
 rw [if_pos (by simp only [List.length_nil]; omega)]
 rfl
theorem taken_impl (l : List S71) (i : Int) (h0 : 0 ≤ i) (h : i < (l.length : Int)) (hl : l.length ≤ 1000000000) : y_dc.f l i = some (out1 l i) := by
 unfold y_dc.f out1
 rw [wrap_succ h0 (n := l.length) h (by omega), if_pos h0, if_pos (by omega), clone_eq _ (by rw [List.length_take]; omega)]
 simp only [Option.bind_some, List.length_take, List.length_drop]
 rw [if_pos (by omega), if_pos (by omega), if_pos (by omega)]
theorem cloneRuns_go (l : List S39) (hl : l.length ≤ 1000000000) (ho : ∀ x ∈ l, x.f0.length ≤ 1000000000) (d : Nat) : ∀ (k : Nat) (acc : List S39) (i : Int), 0 ≤ i → i ≤ l.length → acc = l.take i.toNat → (l.length : Int) - i = d → d < k →
  y_db.l0 k acc l (l.length : Int) i = some l := by
 induction d with
 | zero =>
  intro k acc i h0 h1 ha hd hk
  obtain ⟨k, rfl⟩ : ∃ m, k = m + 1 := ⟨k - 1, by omega⟩
  rw [List.take_of_length_le (by omega)] at ha
  rw [y_db.l0, if_neg (by omega), ha]
 | succ d ih =>
  intro k acc i h0 h1 ha hd hk
  obtain ⟨k, rfl⟩ : ∃ m, k = m + 1 := ⟨k - 1, by omega⟩
  have hm : (rd_T39 l i).f0.length ≤ 1000000000 := ho _ (getD_mem l z39 i h0 (by omega))
  have hal : acc.length = i.toNat := by
   rw [ha, List.length_take]
   omega
  rw [y_db.l0, if_pos (by omega), if_pos h0, if_pos (by omega), clone_eq _ hm]
  simp only [Option.bind_some]
  rw [if_pos (by omega), wrap_succ h0 (n := l.length) (by omega) (by omega)]
  refine ih k _ (i + 1) (by omega) (by omega) ?_ (by omega) (by omega)
  have hi : i.toNat < l.length := by omega
  rw [ha, show (i + 1).toNat = i.toNat + 1 by omega, List.take_add_one, List.getElem?_eq_getElem hi]
  have e : rd_T39 l i = l[i.toNat] := by
   unfold rd_T39
   rw [List.getD_eq_getElem?_getD, List.getElem?_eq_getElem hi]
   rfl
  rw [e]
  rfl
theorem cloneRuns_eq (l : List S39) (hl : l.length ≤ 1000000000) (ho : ∀ x ∈ l, x.f0.length ≤ 1000000000) (k : Nat) (hk : l.length < k) : y_db.f k l = some l := by
 unfold y_db.f
 exact cloneRuns_go l hl ho l.length k [] 0 (by omega) (by omega) rfl (by omega) hk
def fl (R : List S39) : List S71 := R.flatMap (fun r => r.f0)
theorem fl_snoc (R : List S39) (l : List S71) : fl (R ++ [⟨l⟩]) = fl R ++ l := by
 unfold fl
 rw [List.flatMap_append, List.flatMap_cons, List.flatMap_nil, List.append_nil]
theorem fl_len (R : List S39) (h : ∀ r ∈ R, r.f0 ≠ []) : R.length ≤ (fl R).length := by
 induction R with
 | nil => exact Nat.le_refl 0
 | cons r R ih =>
  have h1 := ih (fun x hx => h x (List.mem_cons_of_mem _ hx))
  have h2 := List.length_pos_iff.2 (h r List.mem_cons_self)
  unfold fl at *
  rw [List.flatMap_cons, List.length_append, List.length_cons]
  omega
theorem fl_mem (R : List S39) (r : S39) (h : r ∈ R) : r.f0.length ≤ (fl R).length := by
 induction R with
 | nil => cases h
 | cons x R ih =>
  unfold fl at *
  rw [List.flatMap_cons, List.length_append]
  rcases List.mem_cons.1 h with rfl | h
  ·omega
  ·have := ih h
   omega
theorem tot_perm (a b : List S71) (h : a.Perm b) : tot a = tot b := by
 induction h with
 | nil => rfl
 | cons x _ ih => simp only [tot, ih]
 | swap x y l =>
  simp only [tot]
  omega
 | trans _ _ h1 h2 => rw [h1, h2]
structure RInv (l : List S71) (mem : Int) (out : List S39) (cur heap next : List S71) (i : Int) : Prop where
 hi0 : 0 ≤ i
 hi1 : i ≤ l.length
 hperm : (fl out ++ cur ++ heap ++ next).Perm (l.take i.toNat)
 hout : ∀ r ∈ out, r.f0 ≠ [] ∧ SP r.f0 ∧ mem - 3 ≤ tot r.f0
 hcur : SP cur
 hlow : ∀ x ∈ cur, ∀ y ∈ heap, cmpR x y ≤ 0
 hc0 : cur = [] → next = []
 hbig : cur ≠ [] → (i = l.length ∧ next = []) ∨ mem - 3 ≤ tot cur + tot heap
 hone : tot l ≤ mem → out = [] ∧ next = [] ∧ (cur ≠ [] → i = l.length)
structure Post (l : List S71) (mem : Int) (R : List S39) : Prop where
 perm : (fl R).Perm l
 runs : ∀ r ∈ R, r.f0 ≠ [] ∧ SP r.f0
 most : ∀ r ∈ R.dropLast, mem - 3 ≤ tot r.f0
 one : tot l ≤ mem → R.length ≤ 1
theorem inv_len {l : List S71} {mem : Int} {out : List S39} {cur heap next : List S71} {i : Int} (h : RInv l mem out cur heap next i) :
  (fl out).length + cur.length + heap.length + next.length = i.toNat := by
 have := h.hperm.length_eq
 simp only [List.length_append, List.length_take] at this
 have := h.hi1
 have := h.hi0
 omega
theorem inv_tot {l : List S71} {mem : Int} {out : List S39} {cur heap next : List S71} {i : Int} (h : RInv l mem out cur heap next i) :
  tot heap + tot next + tot (l.drop i.toNat) ≤ tot l := by
 have e := tot_perm _ _ h.hperm
 simp only [tot_append] at e
 have e2 := tot_append (l.take i.toNat) (l.drop i.toNat)
 rw [List.take_append_drop] at e2
 have := tot_bd (fl out)
 have := tot_bd cur
 omega
theorem cost_drop (l : List S71) (i : Int) (h0 : 0 ≤ i) (h : i < (l.length : Int)) : cost (rd_T71 l i) ≤ tot (l.drop i.toNat) := by
 have e : l.drop i.toNat = rd_T71 l i :: l.drop (i + 1).toNat := drop_getD l z71 i h0 h
 have := tot_bd (l.drop (i + 1).toNat)
 rw [e]
 simp only [tot]
 omega
theorem inv_end {l : List S71} {mem : Int} {out : List S39} {cur : List S71} {i : Int} (h : RInv l mem out cur [] [] i) (hi : ¬ i < l.length) :
  Post l mem (if 0 < cur.length then out ++ [⟨cur⟩] else out) := by
 have hp := h.hperm
 rw [List.take_of_length_le (by omega), List.append_nil, List.append_nil] at hp
 split
 ·refine ⟨by rw [fl_snoc]; exact hp, fun r hr => ?_, fun r hr => ?_, fun ht => ?_⟩
  ·rcases List.mem_append.1 hr with h1 | h1
   ·exact ⟨(h.hout r h1).1, (h.hout r h1).2.1⟩
   ·obtain rfl : r = ⟨cur⟩ := by simpa using h1
    exact ⟨List.ne_nil_of_length_pos ‹_›, h.hcur⟩
  ·rw [List.dropLast_concat] at hr
   exact (h.hout r hr).2.2
  ·rw [(h.hone ht).1]
   exact Nat.le_refl 1
 ·have hc : cur = [] := List.eq_nil_of_length_eq_zero (by omega)
  rw [hc, List.append_nil] at hp
  refine ⟨hp, fun r hr => ⟨(h.hout r hr).1, (h.hout r hr).2.1⟩, fun r hr => (h.hout r (List.dropLast_subset out hr)).2.2, fun ht => ?_⟩
  rw [(h.hone ht).1]
  exact Nat.zero_le 1
theorem inv_next {l : List S71} {mem : Int} {out : List S39} {cur heap next : List S71} {i : Int} (h : RInv l mem out cur heap next i) (hi : i < l.length) (hc : cur ≠ []) :
  RInv l mem out cur heap (next ++ [rd_T71 l i]) (i + 1) := by
 have h0 := h.hi0
 refine ⟨by omega, by omega, ?_, h.hout, h.hcur, h.hlow, fun e => absurd e hc, fun _ => ?_, fun ht => ?_⟩
 ·rw [take_succ_rd l i h0 hi, ← List.append_assoc]
  exact h.hperm.append_right _
 ·rcases h.hbig hc with h1 | h1
  ·omega
  ·exact Or.inr h1
 ·have := (h.hone ht).2.2 hc
  omega
theorem inv_heap {l : List S71} {mem : Int} {out : List S39} {cur heap next : List S71} {i : Int} (h : RInv l mem out cur heap next i) (hi : i < l.length) (hc : ∀ x ∈ cur, cmpR x (rd_T71 l i) ≤ 0) :
  RInv l mem out cur (heap ++ [rd_T71 l i]) next (i + 1) := by
 have h0 := h.hi0
 refine ⟨by omega, by omega, ?_, h.hout, h.hcur, fun x hx y hy => ?_, h.hc0, fun hn => ?_, fun ht => ⟨(h.hone ht).1, (h.hone ht).2.1, fun hn => ?_⟩⟩
 ·rw [take_succ_rd l i h0 hi]
  have e : (fl out ++ cur ++ (heap ++ [rd_T71 l i]) ++ next).Perm (fl out ++ cur ++ heap ++ next ++ [rd_T71 l i]) := by
   simp only [List.append_assoc]
   exact List.Perm.append_left _ (List.Perm.append_left _ (List.Perm.append_left _ List.perm_append_comm))
  exact e.trans (h.hperm.append_right _)
 ·rcases List.mem_append.1 hy with h1 | h1
  ·exact h.hlow x hx y h1
  ·obtain rfl : y = rd_T71 l i := by simpa using h1
   exact hc x hx
 ·rcases h.hbig hn with h1 | h1
  ·omega
  ·right
   have := cost_bd (rd_T71 l i)
   rw [tot_append]
   simp only [tot]
   omega
 ·have := (h.hone ht).2.2 hn
  omega
theorem inv_flush {l : List S71} {mem : Int} {out : List S39} {cur next : List S71} {i : Int} (h : RInv l mem out cur [] next i) (hn : next ≠ []) :
  RInv l mem (out ++ [⟨cur⟩]) [] next [] i := by
 have hc : cur ≠ [] := fun e => hn (h.hc0 e)
 refine ⟨h.hi0, h.hi1, ?_, fun r hr => ?_, List.Pairwise.nil, fun x hx => absurd hx (by simp), fun _ => rfl, fun e => absurd rfl e, fun ht => absurd (h.hone ht).2.1 hn⟩
 ·rw [fl_snoc]
  simpa using h.hperm
 ·rcases List.mem_append.1 hr with h1 | h1
  ·exact h.hout r h1
  ·obtain rfl : r = ⟨cur⟩ := by simpa using h1
   refine ⟨hc, h.hcur, ?_⟩
   rcases h.hbig hc with h2 | h2
   ·exact absurd h2.2 hn
   ·simpa [tot] using h2
theorem inv_pop {l : List S71} {mem : Int} {out : List S39} {cur heap next : List S71} {i : Int} (h : RInv l mem out cur heap next i) (m : Int) (hm0 : 0 ≤ m) (hm1 : m < heap.length) (hmin : ∀ y ∈ heap, cmpR (rd_T71 heap m) y ≤ 0)
  (hf : i < l.length → mem < tot heap + tot next + cost (rd_T71 l i)) : RInv l mem out (cur ++ [rd_T71 heap m]) (out1 heap m) next i := by
 have hp := out1_perm heap m hm0 hm1
 have hx : rd_T71 heap m ∈ heap := hp.symm.subset List.mem_cons_self
 have hs : ∀ y ∈ out1 heap m, y ∈ heap := fun y hy => hp.symm.subset (List.mem_cons_of_mem _ hy)
 have ht := tot_perm _ _ hp
 simp only [tot] at ht
 generalize rd_T71 heap m = x at *
 generalize out1 heap m = heap' at *
 have ne : cur ++ [x] ≠ [] := by simp
 refine ⟨h.hi0, h.hi1, ?_, h.hout, ?_, fun a ha y hy => ?_, fun e => absurd e ne, fun _ => ?_, fun hT => ⟨(h.hone hT).1, (h.hone hT).2.1, fun _ => ?_⟩⟩
 ·refine List.Perm.trans ?_ h.hperm
  have e : (cur ++ [x] ++ heap').Perm (cur ++ heap) := by
   rw [List.append_assoc]
   exact List.Perm.append_left _ hp.symm
  have e2 := (e.append_left (fl out)).append_right next
  simpa [List.append_assoc] using e2
 ·unfold SP
  rw [List.pairwise_append]
  refine ⟨h.hcur, List.pairwise_singleton _ _, fun a ha b hb => ?_⟩
  obtain rfl : b = x := by simpa using hb
  exact h.hlow a ha b hx
 ·rcases List.mem_append.1 ha with h1 | h1
  ·exact h.hlow a h1 y (hs y hy)
  ·obtain rfl : a = x := by simpa using h1
   exact hmin y (hs y hy)
 ·rw [tot_append]
  simp only [tot]
  by_cases hc : cur = []
  ·by_cases hi : i < l.length
   ·right
    have h1 := hf hi
    have h2 := cost_bd (rd_T71 l i)
    have h3 : tot next = 0 := by rw [h.hc0 hc]; rfl
    have h4 : tot cur = 0 := by rw [hc]; rfl
    omega
   ·exact Or.inl ⟨by have := h.hi1; omega, h.hc0 hc⟩
  ·rcases h.hbig hc with h1 | h1
   ·exact Or.inl h1
   ·right
    omega
 ·by_cases hi : i < l.length
  ·have h1 := hf hi
   have h2 := inv_tot h
   have h3 := cost_drop l i h.hi0 hi
   omega
  ·have := h.hi1
   omega
theorem wrap_sub1 {n : Nat} (h : 0 < n) (hn : n ≤ 9223372036854775807) : wrap64 ((n : Int) - 1) = (n : Int) - 1 := wrap_id (by omega) (by omega)
theorem last_le (l : List S71) (hs : SP l) (x : S71) (h0 : 0 < l.length) (h : cmpR (rd_T71 l ((l.length : Int) - 1)) x ≤ 0) : ∀ y ∈ l, cmpR y x ≤ 0 := by
 have := getD_le l hs (l.length - 1) (by omega) x (by
  have e : ((l.length : Int) - 1).toNat = l.length - 1 := by omega
  unfold rd_T71 at h
  rw [e] at h
  exact h)
 rw [List.take_of_length_le (by omega)] at this
 exact this
def less (x : S71) (cur : List S71) : Bool := decide (0 < cur.length) && decide (cmpR x (rd_T71 cur ((cur.length : Int) - 1)) < 0)
theorem below_impl (x : S71) (cur : List S71) (hl : cur.length ≤ 1000000000) : y_lb.f x.f0 x.f1 x.f2 cur = some (less x cur) := by
 unfold y_lb.f less
 by_cases h : 0 < cur.length
 ·rw [if_pos (by omega), wrap_sub1 h (by omega), if_pos (by omega), if_pos (by omega), cmp_impl, decide_eq_true h]
  simp
 ·rw [if_neg (by omega), decide_eq_false h]
  rfl
theorem less_no (x : S71) (cur : List S71) (hs : SP cur) (h : less x cur = false) : ∀ y ∈ cur, cmpR y x ≤ 0 := by
 by_cases h0 : 0 < cur.length
 ·refine last_le cur hs x h0 ?_
  unfold less at h
  rw [decide_eq_true h0, Bool.true_and, decide_eq_false_iff_not] at h
  have := cmpR_anti x (rd_T71 cur ((cur.length : Int) - 1))
  omega
 ·intro y hy
  have e : cur = [] := List.eq_nil_of_length_eq_zero (by omega)
  rw [e] at hy
  cases hy
theorem less_yes (x : S71) (cur : List S71) (h : less x cur = true) : cur ≠ [] := by
 intro e
 rw [e] at h
 exact Bool.false_ne_true h
def rdb (l : List S71) (mem : Int) (heap next : List S71) (i : Int) : Bool := decide (i < (l.length : Int)) && decide (tot heap + tot next + cost (rd_T71 l i) ≤ mem)
theorem j2_spec (l : List S71) (mem : Int) (out : List S39) (cur heap next : List S71) (i : Int) (h0 : 0 ≤ i) (hh : heap.length ≤ 1000000000) (hn : next.length ≤ 1000000000) (k : Nat) (hk1 : heap.length < k) (hk2 : next.length < k) :
  y_b.j2 (k + 1) l mem out cur heap next i true = y_b.j3 k l mem out cur heap next i (rdb l mem heap next i) := by
 have b1 := tot_bd heap
 have b2 := tot_bd next
 have b3 := cost_bd (rd_T71 l i)
 rw [y_b.j2, if_pos rfl]
 unfold rdb
 by_cases h : i < (l.length : Int)
 ·rw [if_pos h, tot_spec heap (by omega) k hk1, tot_spec next (by omega) k hk2]
  simp only [Option.bind_some]
  rw [if_pos h0, cost_spec]
  simp only [Option.bind_some]
  rw [wrap_id (x := tot heap + tot next) (by omega) (by omega), wrap_id (by omega) (by omega), decide_eq_true h, Bool.true_and]
 ·rw [if_neg h, decide_eq_false h]
  rfl
theorem l0_impl (l : List S71) (mem : Int) (out : List S39) (cur heap next : List S71) (i : Int) (h0 : 0 ≤ i) (hh : heap.length ≤ 1000000000) (hn : next.length ≤ 1000000000) (k : Nat) (hk1 : heap.length < k) (hk2 : next.length < k) :
  y_c.l0 (k + 1) l mem heap next cur out i = y_c.j2 k l mem heap next cur out i (rdb l mem heap next i) := by
 have b1 := tot_bd heap
 have b2 := tot_bd next
 have b3 := cost_bd (rd_T71 l i)
 rw [y_c.l0]
 unfold rdb
 by_cases h : i < (l.length : Int)
 ·rw [if_pos h, tot_impl heap (by omega) k hk1, tot_impl next (by omega) k hk2]
  simp only [Option.bind_some]
  rw [if_pos h0, cost_impl]
  simp only [Option.bind_some]
  rw [wrap_id (x := tot heap + tot next) (by omega) (by omega), wrap_id (by omega) (by omega), decide_eq_true h, Bool.true_and]
 ·rw [if_neg h, decide_eq_false h]
  rfl
theorem rsel_go (l : List S71) (hl : l.length ≤ 24) (mem : Int) (hmem : 4 ≤ mem) (d : Nat) : ∀ (k1 k2 : Nat) (out : List S39) (cur heap next : List S71) (i : Int), RInv l mem out cur heap next i →
  3 * (l.length - i.toNat) + 2 * next.length + heap.length < d → 4 * d + 100 < k1 → 4 * d + 100 < k2 →
  ∃ R, y_b.l0 k1 l mem out cur heap next i = some (R, true) ∧ y_c.l0 k2 l mem heap next cur out i = some (R, true) ∧ Post l mem R := by
 induction d with
 | zero => intro k1 k2 out cur heap next i _ hd; omega
 | succ d ih =>
  intro k1 k2 out cur heap next i inv hd hk1 hk2
  have len := inv_len inv
  have h0 := inv.hi0
  have h1 := inv.hi1
  have lo := fl_len out (fun r hr => (inv.hout r hr).1)
  obtain ⟨k1, rfl⟩ : ∃ m, k1 = m + 1 + 1 + 1 := ⟨k1 - 3, by omega⟩
  obtain ⟨k2, rfl⟩ : ∃ m, k2 = m + 1 + 1 + 1 := ⟨k2 - 3, by omega⟩
  have hT : (i < (l.length : Int)) ∨ 0 < heap.length + next.length → y_b.l0 (k1 + 1 + 1 + 1) l mem out cur heap next i = y_b.j3 (k1 + 1) l mem out cur heap next i (rdb l mem heap next i) := by
   intro h
   rw [y_b.l0]
   by_cases hi : i < (l.length : Int)
   ·rw [if_pos hi, j2_spec l mem out cur heap next i h0 (by omega) (by omega) (k1 + 1) (by omega) (by omega)]
   ·rw [if_neg hi, wrap_id (by omega) (by omega), decide_eq_true (show (heap.length : Int) + next.length > 0 by omega), j2_spec l mem out cur heap next i h0 (by omega) (by omega) (k1 + 1) (by omega) (by omega)]
  rw [l0_impl l mem out cur heap next i h0 (by omega) (by omega) (k2 + 1 + 1) (by omega) (by omega)]
  cases hr : rdb l mem heap next i with
  | true =>
   have hi : i < (l.length : Int) := by
    unfold rdb at hr
    rw [Bool.and_eq_true, decide_eq_true_eq] at hr
    exact hr.1
   rw [hT (Or.inl hi), hr, y_b.j3, if_pos rfl, y_c.j2, if_pos rfl, below_impl (rd_T71 l i) cur (by omega), wrap_succ h0 (n := l.length) hi (by omega)]
   simp only [Option.bind_some]
   have e : (⟨(rd_T71 l i).f0, (rd_T71 l i).f1, (rd_T71 l i).f2⟩ : S71) = rd_T71 l i := rfl
   have hN : next.length < 5864062014805 := by omega
   have hH : heap.length < 5864062014805 := by omega
   have hS : ∀ X Y : Option (List S39 × Bool), (if (cur.length : Int) > 0 then (if 0 ≤ (wrap64 ((cur.length : Int) - 1)) then (if (wrap64 ((cur.length : Int) - 1)) < (cur.length : Int) then ((y_g.f k1 ((rd_T71 l i).f0) ((rd_T71 l i).f1) ((rd_T71 l i).f2) ((rd_T71 cur (wrap64 ((cur.length : Int) - 1))).f0) ((rd_T71 cur (wrap64 ((cur.length : Int) - 1))).f1) ((rd_T71 cur (wrap64 ((cur.length : Int) - 1))).f2)).bind fun t398 => (if t398 < 0 then X else Y)) else (none)) else (none)) else Y)
     = if less (rd_T71 l i) cur = true then X else Y := by
    intro X Y
    unfold less
    by_cases hc : 0 < cur.length
    ·rw [if_pos (by omega), wrap_sub1 hc (by omega), if_pos (by omega), if_pos (by omega), cmp_spec _ _ k1 (by omega), decide_eq_true hc]
     simp only [Option.bind_some, Bool.true_and, decide_eq_true_eq]
    ·rw [if_neg (by omega), decide_eq_false hc, Bool.false_and, if_neg Bool.false_ne_true]
   simp only [e, h0, hi, hN, hH, if_true]
   rw [hS]
   cases hb : less (rd_T71 l i) cur with
   | true =>
    rw [if_pos rfl, if_pos rfl]
    exact ih k1 (k2 + 1) out cur heap _ (i + 1) (inv_next inv hi (less_yes _ _ hb)) (by rw [List.length_append, List.length_singleton]; omega) (by omega) (by omega)
   | false =>
    rw [if_neg Bool.false_ne_true, if_neg Bool.false_ne_true]
    exact ih k1 (k2 + 1) out cur _ next (i + 1) (inv_heap inv hi (less_no _ _ inv.hcur hb)) (by rw [List.length_append, List.length_singleton]; omega) (by omega) (by omega)
  | false =>
   have hf : i < (l.length : Int) → mem < tot heap + tot next + cost (rd_T71 l i) := by
    intro hi
    unfold rdb at hr
    rw [decide_eq_true hi, Bool.true_and, decide_eq_false_iff_not] at hr
    omega
   rw [y_c.j2, if_neg Bool.false_ne_true]
   by_cases hh : heap.length = 0
   ·have eh := List.eq_nil_of_length_eq_zero hh
    rw [if_pos (by omega)]
    by_cases hn : next.length = 0
    ·have en := List.eq_nil_of_length_eq_zero hn
     have hi : ¬ i < (l.length : Int) := by
      intro hi
      have := hf hi
      rw [eh, en] at this
      have := cost_bd (rd_T71 l i)
      simp only [tot] at *
      omega
     rw [eh, en] at inv
     have post := inv_end inv hi
     refine ⟨_, ?_, ?_, post⟩
     ·rw [y_b.l0, if_neg hi, wrap_id (by omega) (by omega), decide_eq_false (by omega), y_b.j2, if_neg Bool.false_ne_true]
      by_cases hc : 0 < cur.length
      ·rw [if_pos (by omega), if_pos (by omega), if_pos hc]
      ·rw [if_neg (by omega), if_neg hc]
     ·rw [y_c.j3, decide_eq_false (by omega), if_neg Bool.false_ne_true, if_neg (by omega)]
      have hm : ∀ x ∈ out, x.f0.length ≤ 1000000000 := fun x hx => by
       have := fl_mem out x hx
       omega
      by_cases hc : 0 < cur.length
      ·rw [if_pos (by omega), if_pos (by omega), if_pos hc, cloneRuns_eq _ (by rw [List.length_append, List.length_singleton]; omega) (fun x hx => by
        rcases List.mem_append.1 hx with h | h
        ·exact hm x h
        ·obtain rfl : x = ⟨cur⟩ := by simpa using h
         show cur.length ≤ _
         omega) k2 (by rw [List.length_append, List.length_singleton]; omega)]
       rfl
      ·rw [if_neg (by omega), if_neg hc, cloneRuns_eq _ (by omega) hm k2 (by omega)]
       rfl
    ·have en : next ≠ [] := fun e => hn (by rw [e]; rfl)
     rw [hT (Or.inr (by omega)), hr, y_b.j3, if_neg Bool.false_ne_true, if_pos (by omega), if_pos (by omega), y_c.j3, decide_eq_true (show (next.length : Int) > 0 by omega), if_pos rfl, if_pos (by omega)]
     rw [eh] at inv
     exact ih k1 k2 (out ++ [⟨cur⟩]) [] next [] i (inv_flush inv en) (by simp only [List.length_nil]; omega) (by omega) (by omega)
   ·rw [if_neg (by omega), hT (Or.inr (by omega)), hr, y_b.j3, if_neg Bool.false_ne_true, if_neg (by omega), y_c.j3, if_neg Bool.false_ne_true, if_pos (by omega)]
    obtain ⟨m, e1, e2, hm0, hm1, hm2, hmin⟩ := min_both heap (by omega) k1 k2 (by omega) (by omega)
    have hm : 0 ≤ m := by
     rcases Int.lt_or_le m 0 with h | h
     ·exact absurd (hm2 h) hh
     ·exact h
    rw [e1, e2]
    simp only [Option.bind_some]
    rw [if_pos hm, if_pos hm, if_pos (by omega), if_pos (by omega), if_pos (by omega), if_pos (by omega), drop1_spec heap m hm hm1 (by omega), taken_impl heap m hm hm1 (by omega)]
    simp only [Option.bind_some]
    have lp := (out1_perm heap m hm hm1).length_eq
    rw [List.length_cons] at lp
    exact ih k1 k2 out (cur ++ [rd_T71 heap m]) (out1 heap m) next i (inv_pop inv m hm hm1 hmin hf) (by omega) (by omega) (by omega)
theorem rinv_start (l : List S71) (mem : Int) : RInv l mem [] [] [] [] 0 :=
 ⟨by omega, by omega, List.Perm.refl _, fun r hr => absurd hr (by simp), List.Pairwise.nil, fun x hx => absurd hx (by simp), fun _ => rfl, fun h => absurd rfl h, fun _ => ⟨rfl, rfl, fun h => absurd rfl h⟩⟩
theorem rsel_both (l : List S71) (hl : l.length ≤ 1000000000) (mem : Int) (k1 k2 : Nat) (hk1 : l.length + 5000 < k1) (hk2 : l.length + 5000 < k2) :
  ∃ R ok, y_b.f k1 l mem = some (R, ok) ∧ y_c.f k2 l mem = some (R, ok) ∧ (ok = (vRows l && decide (8 ≤ mem ∧ mem ≤ 60))) ∧ (ok = false → R = []) ∧ (ok = true → Post l mem R) := by
 unfold y_b.f y_c.f y_gc.f
 rw [vRows_spec l (by omega) k1 (by omega), vRows_impl l (by omega) k2 (by omega)]
 simp only [Option.bind_some, l1In_in, within_in]
 obtain ⟨k1, rfl⟩ : ∃ m, k1 = m + 1 := ⟨k1 - 1, by omega⟩
 obtain ⟨k2, rfl⟩ : ∃ m, k2 = m + 1 := ⟨k2 - 1, by omega⟩
 cases hv : vRows l with
 | false =>
  rw [if_neg Bool.false_ne_true, if_neg Bool.false_ne_true, y_b.j0, y_c.j0, if_pos rfl, if_pos rfl]
  exact ⟨[], false, rfl, rfl, rfl, fun _ => rfl, fun h => absurd h Bool.false_ne_true⟩
 | true =>
  rw [if_pos rfl, if_pos rfl]
  by_cases hm : 8 ≤ mem ∧ mem ≤ 60
  ·have hl24 : l.length ≤ 24 := by
    unfold vRows at hv
    rw [Bool.and_eq_true, decide_eq_true_eq] at hv
    exact hv.2
   rw [decide_eq_true hm, y_b.j0, y_c.j0]
   simp only [Bool.not_true, Bool.false_eq_true, if_false]
   obtain ⟨R, e1, e2, p⟩ := rsel_go l hl24 mem (by omega) 100 k1 k2 [] [] [] [] 0 (rinv_start l mem) (by simp only [List.length_nil, Int.toNat_zero]; omega) (by omega) (by omega)
   exact ⟨R, true, e1, e2, rfl, fun h => absurd h.symm Bool.false_ne_true, fun _ => p⟩
  ·rw [decide_eq_false hm, y_b.j0, y_c.j0]
   simp only [Bool.not_false, if_true]
   exact ⟨[], false, rfl, rfl, rfl, fun _ => rfl, fun h => absurd h Bool.false_ne_true⟩
theorem fl_cons (x : S39) (l : List S39) : fl (x :: l) = x.f0 ++ fl l := by
 unfold fl
 rw [List.flatMap_cons]
theorem flat_spec_go (l : List S39) (hl : l.length ≤ 100000000) (d : Nat) : ∀ (k : Nat) (out : List S71) (i : Int), 0 ≤ i → i ≤ l.length → out.length + (fl (l.drop i.toNat)).length ≤ 1000000000000 → (l.length : Int) - i = d → d < k →
  y_n.l0 k l out i = some (out ++ fl (l.drop i.toNat)) := by
 induction d with
 | zero =>
  intro k out i h0 h1 ho hd hk
  obtain ⟨k, rfl⟩ : ∃ m, k = m + 1 := ⟨k - 1, by omega⟩
  rw [y_n.l0, if_neg (by omega), drop_end l i (by omega)]
  exact congrArg some (List.append_nil out).symm
 | succ d ih =>
  intro k out i h0 h1 ho hd hk
  obtain ⟨k, rfl⟩ : ∃ m, k = m + 1 := ⟨k - 1, by omega⟩
  have hD : l.drop i.toNat = rd_T39 l i :: l.drop (i + 1).toNat := drop_getD l z39 i h0 (by omega)
  rw [hD, fl_cons, List.length_append] at ho
  rw [y_n.l0, if_pos (by omega), if_pos h0, if_pos (by omega), wrap_succ h0 (n := l.length) (by omega) (by omega), ih k _ (i + 1) (by omega) (by omega) (by rw [List.length_append]; omega) (by omega) (by omega), hD, fl_cons, List.append_assoc]
theorem flat_spec (l : List S39) (hl : l.length ≤ 100000000) (ho : (fl l).length ≤ 1000000000000) (k : Nat) (hk : l.length < k) : y_n.f k l = some (fl l) := by
 unfold y_n.f
 exact flat_spec_go l hl l.length k [] 0 (by omega) (by omega) (by simp only [List.length_nil, Int.toNat_zero, List.drop_zero]; omega) (by omega) hk
theorem flat_impl_go (l : List S39) (hl : l.length ≤ 100000000) (d : Nat) : ∀ (k : Nat) (out : List S71) (i : Int), 0 ≤ i → i ≤ l.length → out.length + (fl (l.drop i.toNat)).length ≤ 1000000000000 → (l.length : Int) - i = d → d < k →
  y_j.l0 k out l (l.length : Int) i = some (out ++ fl (l.drop i.toNat)) := by
 induction d with
 | zero =>
  intro k out i h0 h1 ho hd hk
  obtain ⟨k, rfl⟩ : ∃ m, k = m + 1 := ⟨k - 1, by omega⟩
  rw [y_j.l0, if_neg (by omega), drop_end l i (by omega)]
  exact congrArg some (List.append_nil out).symm
 | succ d ih =>
  intro k out i h0 h1 ho hd hk
  obtain ⟨k, rfl⟩ : ∃ m, k = m + 1 := ⟨k - 1, by omega⟩
  have hD : l.drop i.toNat = rd_T39 l i :: l.drop (i + 1).toNat := drop_getD l z39 i h0 (by omega)
  rw [hD, fl_cons, List.length_append] at ho
  rw [y_j.l0, if_pos (by omega), if_pos h0, if_pos (by omega), if_pos (by omega), wrap_succ h0 (n := l.length) (by omega) (by omega), ih k _ (i + 1) (by omega) (by omega) (by rw [List.length_append]; omega) (by omega) (by omega), hD, fl_cons, List.append_assoc]
theorem flat_impl (l : List S39) (hl : l.length ≤ 100000000) (ho : (fl l).length ≤ 1000000000000) (k : Nat) (hk : l.length < k) : y_j.f k l = some (fl l) := by
 unfold y_j.f
 exact flat_impl_go l hl l.length k [] 0 (by omega) (by omega) (by simp only [List.length_nil, Int.toNat_zero, List.drop_zero]; omega) (by omega) hk
theorem fl_bd (l : List S39) (B : Nat) (h : ∀ x ∈ l, x.f0.length ≤ B) : (fl l).length ≤ l.length * B := by
 induction l with
 | nil => exact Nat.zero_le _
 | cons x l ih =>
  have h1 := h x List.mem_cons_self
  have h2 := ih (fun y hy => h y (List.mem_cons_of_mem _ hy))
  rw [fl_cons, List.length_append, List.length_cons, Nat.succ_mul]
  omega
theorem sameRows_go (l : List S71) (hl : l.length ≤ 9223372036854775807) (d : Nat) : ∀ (k : Nat) (i : Int), 0 ≤ i → i ≤ l.length → (l.length : Int) - i = d → d < k → y_i.l0 k l l i = some true := by
 induction d with
 | zero =>
  intro k i h0 h1 hd hk
  obtain ⟨k, rfl⟩ : ∃ m, k = m + 1 := ⟨k - 1, by omega⟩
  rw [y_i.l0, if_neg (by omega)]
 | succ d ih =>
  intro k i h0 h1 hd hk
  obtain ⟨k, rfl⟩ : ∃ m, k = m + 1 := ⟨k - 1, by omega⟩
  rw [y_i.l0, if_pos (by omega), if_pos h0, if_pos (by omega), if_neg (by simp), wrap_succ h0 (n := l.length) (by omega) (by omega)]
  exact ih k (i + 1) (by omega) (by omega) (by omega) (by omega)
theorem sameRows_self (l : List S71) (hl : l.length ≤ 9223372036854775807) (k : Nat) (hk : l.length < k) : y_i.f k l l = some true := by
 unfold y_i.f
 rw [if_pos rfl]
 exact sameRows_go l hl l.length k 0 (by omega) (by omega) (by omega) hk
theorem sameRuns_go (l : List S39) (hl : l.length ≤ 9223372036854775807) (B : Nat) (hB : B ≤ 9223372036854775807) (ho : ∀ x ∈ l, x.f0.length ≤ B) (d : Nat) : ∀ (k : Nat) (i : Int), 0 ≤ i → i ≤ l.length → (l.length : Int) - i = d → d + B < k → y_x.l0 k l l i = some true := by
 induction d with
 | zero =>
  intro k i h0 h1 hd hk
  obtain ⟨k, rfl⟩ : ∃ m, k = m + 1 := ⟨k - 1, by omega⟩
  rw [y_x.l0, if_neg (by omega)]
 | succ d ih =>
  intro k i h0 h1 hd hk
  obtain ⟨k, rfl⟩ : ∃ m, k = m + 1 := ⟨k - 1, by omega⟩
  have hm : (rd_T39 l i).f0.length ≤ B := ho _ (getD_mem l z39 i h0 (by omega))
  rw [y_x.l0, if_pos (by omega), if_pos h0, if_pos (by omega), sameRows_self _ (by omega) k (by omega), wrap_succ h0 (n := l.length) (by omega) (by omega)]
  simp only [Option.bind_some, if_true]
  exact ih k (i + 1) (by omega) (by omega) (by omega) (by omega)
theorem sameRuns_self (l : List S39) (hl : l.length ≤ 9223372036854775807) (B : Nat) (hB : B ≤ 9223372036854775807) (ho : ∀ x ∈ l, x.f0.length ≤ B) (k : Nat) (hk : l.length + B < k) : y_x.f k l l = some true := by
 unfold y_x.f
 rw [if_pos rfl]
 exact sameRuns_go l hl B hB ho l.length k 0 (by omega) (by omega) (by omega) hk
theorem bags_go (l : List S71) (hl : l.length ≤ 9223372036854775807) (d : Nat) : ∀ (k : Nat) (i : Int), 0 ≤ i → i ≤ l.length → (l.length : Int) - i = d → d < k → y_gb.l0 k l l i = some true := by
 induction d with
 | zero =>
  intro k i h0 h1 hd hk
  obtain ⟨k, rfl⟩ : ∃ m, k = m + 1 := ⟨k - 1, by omega⟩
  rw [y_gb.l0, if_neg (by omega)]
 | succ d ih =>
  intro k i h0 h1 hd hk
  obtain ⟨k, rfl⟩ : ∃ m, k = m + 1 := ⟨k - 1, by omega⟩
  rw [y_gb.l0, if_pos (by omega), if_pos h0, if_pos (by omega), if_neg (by simp), wrap_succ h0 (n := l.length) (by omega) (by omega)]
  exact ih k (i + 1) (by omega) (by omega) (by omega) (by omega)
theorem bags_perm (a b : List S71) (h : a.Perm b) (B : Nat) (hB : B ≤ 1000000) (ha : a.length ≤ B) (k : Nat) (hk : B * (B + 10) + (B + 10) < k) : y_gb.f k a b = some true := by
 have hb := h.length_eq
 have m1 : a.length * (a.length + 10) ≤ B * (B + 10) := Nat.mul_le_mul ha (by omega)
 unfold y_gb.f
 rw [sort_spec a (by omega) k (by omega), sort_spec b (by omega) k (by rw [← hb]; omega), srt_congr a b h]
 simp only [Option.bind_some]
 rw [if_true]
 have := srt_len b
 exact bags_go (srt b) (by omega) (srt b).length k 0 (by omega) (by omega) (by omega) (by omega)
theorem srtd_sp (l : List S71) : srtd l = true ↔ SP l := by
 unfold SP
 induction l with
 | nil => exact ⟨fun _ => List.Pairwise.nil, fun _ => rfl⟩
 | cons x l ih =>
  cases l with
  | nil => exact ⟨fun _ => List.pairwise_singleton _ _, fun _ => rfl⟩
  | cons y l =>
   rw [srtd, Bool.and_eq_true, decide_eq_true_eq, ih]
   constructor
   ·rintro ⟨h1, h2⟩
    refine List.pairwise_cons.2 ⟨fun z hz => ?_, h2⟩
    rcases List.mem_cons.1 hz with rfl | hz
    ·exact h1
    ·exact cmpR_trans x y z h1 ((List.pairwise_cons.1 h2).1 z hz)
   ·intro h
    obtain ⟨h1, h2⟩ := List.pairwise_cons.1 h
    exact ⟨h1 y List.mem_cons_self, h2⟩
theorem byte_bd (x : Int) : 0 ≤ Go.bits .and .i64 x 255 ∧ Go.bits .and .i64 x 255 ≤ 255 := by
 have h : ∃ n : Nat, n ≤ 255 ∧ Go.bits .and .i64 x 255 = IntKind.i64.wrap (n : Int) := by
  refine ⟨(BitVec.ofInt 64 x &&& BitVec.ofInt 64 255).toNat, ?_, rfl⟩
  rw [BitVec.toNat_and]
  exact Nat.le_trans Nat.and_le_right (by decide)
 obtain ⟨n, hn, e⟩ := h
 have : IntKind.i64.wrap (n : Int) = wrap64 (n : Int) := i64_w _
 rw [e, this, wrap_id (by omega) (by omega)]
 omega
def ps (s : List Int) (p : Int) : Prop := 0 ≤ p ∧ p ≤ (s.length : Int)
theorem byte_ok (s : List Int) (hs : s.length ≤ 1048576) (p z : Int) (hp : ps s p) : ∃ b p' z', y_bb.f s p z = some (b, p', z') ∧ 0 ≤ b ∧ b ≤ 255 ∧ ps s p' := by
 unfold y_bb.f
 have h0 := hp.1
 have h1 := hp.2
 by_cases h : p < (s.length : Int)
 ·rw [if_pos h, if_pos h0, wrap_succ h0 (n := s.length) h (by omega)]
  exact ⟨_, _, _, rfl, (byte_bd _).1, (byte_bd _).2, by omega, by omega⟩
 ·rw [if_neg h]
  exact ⟨_, _, _, rfl, (byte_bd _).1, (byte_bd _).2, hp⟩
theorem tmod_bd (x a : Int) (hx : 0 ≤ x) (ha : 0 < a) : 0 ≤ Int.tmod x a ∧ Int.tmod x a < a := by
 rw [Int.tmod_eq_emod_of_nonneg hx]
 exact ⟨Int.emod_nonneg x (by omega), Int.emod_lt_of_pos x ha⟩
theorem below_ok (s : List Int) (hs : s.length ≤ 1048576) (p z a : Int) (hp : ps s p) : ∃ b p' z', y_r.f s p z a = some (b, p', z') ∧ 0 ≤ b ∧ (0 < a → b < a) ∧ ps s p' := by
 unfold y_r.f
 by_cases h : a ≤ 0
 ·rw [if_pos h]
  exact ⟨0, p, z, rfl, Int.le_refl 0, fun h2 => by omega, hp⟩
 ·rw [if_neg h]
  by_cases h2 : a ≤ 256
  ·rw [if_pos h2]
   obtain ⟨b, p', z', e, b0, b1, hp'⟩ := byte_ok s hs p z hp
   rw [e]
   simp only [Option.bind_some]
   rw [if_neg (by omega)]
   have := tmod_bd b a b0 (by omega)
   exact ⟨_, _, _, rfl, this.1, fun _ => this.2, hp'⟩
  ·rw [if_neg h2]
   obtain ⟨b, p1, z1, e1, b0, b1, hp1⟩ := byte_ok s hs p z hp
   rw [e1]
   simp only [Option.bind_some]
   obtain ⟨c, p2, z2, e2, c0, c1, hp2⟩ := byte_ok s hs p1 z1 hp1
   rw [e2]
   simp only [Option.bind_some]
   obtain ⟨d, p3, z3, e3, d0, d1, hp3⟩ := byte_ok s hs p2 z2 hp2
   rw [e3]
   simp only [Option.bind_some]
   obtain ⟨f, p4, z4, e4, f0, f1, hp4⟩ := byte_ok s hs p3 z3 hp3
   rw [e4]
   simp only [Option.bind_some]
   rw [if_neg (by omega), wrap_id (x := b * 16777216) (by omega) (by omega), wrap_id (x := c * 65536) (by omega) (by omega), wrap_id (x := d * 256) (by omega) (by omega), wrap_id (x := b * 16777216 + c * 65536) (by omega) (by omega), wrap_id (x := b * 16777216 + c * 65536 + d * 256) (by omega) (by omega), wrap_id (by omega) (by omega)]
   have := tmod_bd (b * 16777216 + c * 65536 + d * 256 + f) a (by omega) (by omega)
   exact ⟨_, _, _, rfl, this.1, fun _ => this.2, hp4⟩
theorem once_ok (s : List Int) (hs : s.length ≤ 1048576) (p z a : Int) (hp : ps s p) : ∃ b p' z', y_ib.f s p z a = some (b, p', z') ∧ ps s p' := by
 unfold y_ib.f
 obtain ⟨b, p', z', e, _, _, hp'⟩ := below_ok s hs p z a hp
 rw [e]
 exact ⟨_, _, _, rfl, hp'⟩
theorem pick_ok (s : List Int) (hs : s.length ≤ 1048576) (p z : Int) (hp : ps s p) (l : List Int) (hl : 0 < l.length) : ∃ b p' z', y_h.f s p z l = some (b, p', z') ∧ b ∈ l ∧ ps s p' := by
 unfold y_h.f
 obtain ⟨b, p', z', e, h0, h1, hp'⟩ := below_ok s hs p z l.length hp
 have h2 := h1 (by omega)
 rw [e]
 simp only [Option.bind_some]
 rw [if_pos h0, if_pos h2]
 refine ⟨_, _, _, rfl, ?_, hp'⟩
 have := getD_mem l 0 b h0 h2
 exact this
theorem new_go (s : List Int) (hs : s.length ≤ 1048576) (d : Nat) : ∀ (k : Nat) (z i : Int), 0 ≤ i → (4000 : Int) - i ≤ d → d < k → ∃ z', y_eb.l0 k s z i = some (s, 0, z') := by
 induction d with
 | zero =>
  intro k z i h0 hd hk
  obtain ⟨k, rfl⟩ : ∃ m, k = m + 1 := ⟨k - 1, by omega⟩
  rw [y_eb.l0]
  by_cases h : i < (s.length : Int)
  ·rw [if_pos h, if_neg (by omega)]
   exact ⟨_, rfl⟩
  ·rw [if_neg h]
   exact ⟨_, rfl⟩
 | succ d ih =>
  intro k z i h0 hd hk
  obtain ⟨k, rfl⟩ : ∃ m, k = m + 1 := ⟨k - 1, by omega⟩
  rw [y_eb.l0]
  by_cases h : i < (s.length : Int)
  ·rw [if_pos h]
   by_cases h2 : i < 4000
   ·rw [if_pos h2, if_pos h0, wrap_succ h0 (n := s.length) h (by omega)]
    exact ih k _ (i + 1) (by omega) (by omega) (by omega)
   ·rw [if_neg h2]
    exact ⟨_, rfl⟩
  ·rw [if_neg h]
   exact ⟨_, rfl⟩
theorem new_ok (s : List Int) (hs : s.length ≤ 1048576) (k : Nat) (hk : 4000 < k) : ∃ z, y_eb.f k s = some (s, 0, z) := by
 unfold y_eb.f
 exact new_go s hs 4000 k _ 0 (by omega) (by omega) hk
theorem ps0 (s : List Int) : ps s 0 := ⟨by omega, by omega⟩
theorem big_eq (s : List Int) : y_hc.f s = some (decide ((s.length : Int) > 1048576)) := rfl
theorem row_ok (s : List Int) (hs : s.length ≤ 1048576) (p z a : Int) (hp : ps s p) : ∃ x y u p' z', y_yb.f s p z a = some (x, y, u, p', z') ∧ ps s p' := by
 unfold y_yb.f
 obtain ⟨b, p1, z1, e1, _, _, hp1⟩ := below_ok s hs p z a hp
 rw [e1]
 simp only [Option.bind_some]
 obtain ⟨c, p2, z2, e2, _, _, hp2⟩ := below_ok s hs p1 z1 100 hp1
 rw [e2]
 simp only [Option.bind_some]
 obtain ⟨d, p3, z3, e3, _, hp3⟩ := pick_ok s hs p2 z2 hp2 [0, 0, 1, 2, 3] (by decide)
 rw [e3]
 exact ⟨_, _, _, _, _, rfl, hp3⟩
theorem rows_go (s : List Int) (hs : s.length ≤ 1048576) (a : Int) (d : Nat) : ∀ (k : Nat) (out : List S71) (p z : Int), ps s p → out.length + d ≤ 1000000 → d < k →
  ∃ l p' z', y_s.l0 k out a (d : Int) s p z = some (l, p', z') ∧ l.length = out.length + d ∧ ps s p' := by
 induction d with
 | zero =>
  intro k out p z hp ho hk
  obtain ⟨k, rfl⟩ : ∃ m, k = m + 1 := ⟨k - 1, by omega⟩
  rw [y_s.l0, if_neg (by omega)]
  exact ⟨out, p, z, rfl, rfl, hp⟩
 | succ d ih =>
  intro k out p z hp ho hk
  obtain ⟨k, rfl⟩ : ∃ m, k = m + 1 := ⟨k - 1, by omega⟩
  obtain ⟨x, y, u, p1, z1, e1, hp1⟩ := row_ok s hs p z a hp
  rw [y_s.l0, if_pos (by omega), e1]
  simp only [Option.bind_some]
  rw [if_pos (by omega), wrap_id (by omega) (by omega), show ((d + 1 : Nat) : Int) - 1 = (d : Int) by omega]
  obtain ⟨l, p2, z2, e2, hl, hp2⟩ := ih k (out ++ [⟨x, y, u⟩]) p1 z1 hp1 (by rw [List.length_append, List.length_singleton]; omega) (by omega)
  refine ⟨l, p2, z2, e2, ?_, hp2⟩
  rw [hl, List.length_append, List.length_singleton]
  omega
theorem rows_ok (s : List Int) (hs : s.length ≤ 1048576) (p z : Int) (n : Nat) (hn : n ≤ 100) (hp : ps s p) (k : Nat) (hk : 200 < k) : ∃ l p' z', y_s.f k s p z n = some (l, p', z') ∧ l.length ≤ n ∧ ps s p' := by
 unfold y_s.f
 obtain ⟨b, p1, z1, e1, _, hp1⟩ := pick_ok s hs p z hp [1, 2, 4, 10] (by decide)
 rw [e1]
 rw [Option.bind_some]
 dsimp only
 rw [wrap_id (x := (n : Int) + 1) (by omega) (by omega)]
 obtain ⟨c, p2, z2, e2, c0, c1, hp2⟩ := below_ok s hs p1 z1 ((n : Int) + 1) hp1
 rw [e2]
 rw [Option.bind_some]
 dsimp only
 have c2 := c1 (by omega)
 obtain ⟨l, p3, z3, e3, hl, hp3⟩ := rows_go s hs b c.toNat k [] p2 z2 hp2 (by simp only [List.length_nil]; omega) (by omega)
 have ec : ((c.toNat : Nat) : Int) = c := Int.toNat_of_nonneg c0
 rw [ec] at e3
 have hn' : l.length ≤ n := by
  rw [List.length_nil] at hl
  omega
 exact ⟨l, p3, z3, e3, hn', hp3⟩
theorem any_ok (s : List Int) (hs : s.length ≤ 1048576) (p z : Int) (hp : ps s p) : ∃ x y u p' z', y_cc.f s p z = some (x, y, u, p', z') ∧ ps s p' := by
 unfold y_cc.f
 obtain ⟨x, y, u, p1, z1, e1, hp1⟩ := row_ok s hs p z 10 hp
 rw [e1]
 simp only [Option.bind_some]
 obtain ⟨c, p2, z2, e2, _, _, hp2⟩ := below_ok s hs p1 z1 8 hp1
 rw [e2]
 simp only [Option.bind_some]
 repeat' split
 ·obtain ⟨d, p3, z3, e3, _, hp3⟩ := pick_ok s hs p2 z2 hp2 [(-1), 10] (by decide)
  rw [e3]
  exact ⟨_, _, _, _, _, rfl, hp3⟩
 ·obtain ⟨d, p3, z3, e3, _, hp3⟩ := pick_ok s hs p2 z2 hp2 [(-1), 100, 99] (by decide)
  rw [e3]
  exact ⟨_, _, _, _, _, rfl, hp3⟩
 ·obtain ⟨d, p3, z3, e3, _, hp3⟩ := pick_ok s hs p2 z2 hp2 [(-1), 4] (by decide)
  rw [e3]
  exact ⟨_, _, _, _, _, rfl, hp3⟩
 ·exact ⟨_, _, _, _, _, rfl, hp2⟩
theorem bent_ok (s : List Int) (hs : s.length ≤ 1048576) (p z : Int) (n : Nat) (hn : n ≤ 100) (hp : ps s p) (k : Nat) (hk : 200 < k) : ∃ l p' z', y_vb.f k s p z n = some (l, p', z') ∧ l.length ≤ n + 1 ∧ ps s p' := by
 unfold y_vb.f
 obtain ⟨l, p1, z1, e1, hl, hp1⟩ := rows_ok s hs p z n hn hp k hk
 rw [e1]
 simp only [Option.bind_some]
 obtain ⟨b, p2, z2, e2, hp2⟩ := once_ok s hs p1 z1 14 hp1
 rw [e2]
 simp only [Option.bind_some]
 cases b
 ·rw [if_neg Bool.false_ne_true]
  exact ⟨_, _, _, rfl, by omega, hp2⟩
 ·rw [if_pos rfl]
  obtain ⟨x, y, u, p3, z3, e3, hp3⟩ := any_ok s hs p2 z2 hp2
  rw [e3]
  simp only [Option.bind_some]
  rw [if_pos (by omega)]
  exact ⟨_, _, _, rfl, by rw [List.length_append, List.length_singleton]; omega, hp3⟩
theorem grant_ok (s : List Int) (hs : s.length ≤ 1048576) (p z : Int) (hp : ps s p) : ∃ g p' z', y_fc.f s p z = some (g, p', z') ∧ 7 ≤ g ∧ g ≤ 61 ∧ ps s p' := by
 unfold y_fc.f
 obtain ⟨b, p1, z1, e1, hp1⟩ := once_ok s hs p z 14 hp
 rw [e1]
 simp only [Option.bind_some]
 cases b
 ·rw [if_neg Bool.false_ne_true]
  obtain ⟨c, p2, z2, e2, hc, hp2⟩ := pick_ok s hs p1 z1 hp1 [8, 8, 9, 12, 20, 60] (by decide)
  rw [e2]
  have hc' : 7 ≤ c ∧ c ≤ 61 := by
   simp only [List.mem_cons, List.not_mem_nil, or_false] at hc
   omega
  exact ⟨c, p2, z2, rfl, hc'.1, hc'.2, hp2⟩
 ·rw [if_pos rfl]
  obtain ⟨c, p2, z2, e2, hc, hp2⟩ := pick_ok s hs p1 z1 hp1 [7, 61] (by decide)
  rw [e2]
  have hc' : 7 ≤ c ∧ c ≤ 61 := by
   simp only [List.mem_cons, List.not_mem_nil, or_false] at hc
   omega
  exact ⟨c, p2, z2, rfl, hc'.1, hc'.2, hp2⟩
theorem drawBuild_ok (s : List Int) (hs : s.length ≤ 1048576) (k : Nat) (hk : 4000 < k) : ∃ l g, y_ec.f k s = some (l, g) ∧ l.length ≤ 17 ∧ 7 ≤ g ∧ g ≤ 61 := by
 unfold y_ec.f
 obtain ⟨z, e0⟩ := new_ok s hs k hk
 rw [e0, Option.bind_some]
 dsimp only
 obtain ⟨l, p1, z1, e1, hl, hp1⟩ := bent_ok s hs 0 z 16 (by omega) (ps0 s) k (by omega)
 have e1' : y_vb.f k s 0 z 16 = some (l, p1, z1) := e1
 rw [e1', Option.bind_some]
 dsimp only
 obtain ⟨g, p2, z2, e2, g0, g1, _⟩ := grant_ok s hs p1 z1 hp1
 rw [e2, Option.bind_some]
 exact ⟨l, g, rfl, by omega, g0, g1⟩
theorem runs_go (s : List Int) (hs : s.length ≤ 1048576) (d : Nat) : ∀ (k : Nat) (out : List S39) (p z : Int), ps s p → out.length + d ≤ 1000 → (∀ x ∈ out, x.f0.length ≤ 4) → d + 1000 < k →
  ∃ l p' z', y_p.l0 k out (d : Int) s p z = some (l, p', z') ∧ l.length ≤ out.length + d ∧ (∀ x ∈ l, x.f0.length ≤ 4) ∧ ps s p' := by
 induction d with
 | zero =>
  intro k out p z hp ho hx hk
  obtain ⟨k, rfl⟩ : ∃ m, k = m + 1 := ⟨k - 1, by omega⟩
  rw [y_p.l0, if_neg (by omega)]
  by_cases h : 0 < out.length
  ·rw [if_pos (by omega)]
   obtain ⟨b, p1, z1, e1, hp1⟩ := once_ok s hs p z 12 hp
   rw [e1, Option.bind_some]
   dsimp only
   cases b
   ·rw [if_neg Bool.false_ne_true]
    exact ⟨out, p1, z1, rfl, by omega, hx, hp1⟩
   ·rw [if_pos rfl]
    obtain ⟨r, p2, z2, e2, hr, hp2⟩ := rows_ok s hs p1 z1 4 (by omega) hp1 k (by omega)
    have e2' : y_s.f k s p1 z1 4 = some (r, p2, z2) := e2
    rw [e2', Option.bind_some, if_pos (by omega)]
    refine ⟨_, p2, z2, rfl, by rw [List.length_set]; omega, fun x hxm => ?_, hp2⟩
    rcases List.mem_or_eq_of_mem_set hxm with h1 | h1
    ·exact hx x h1
    ·rw [h1]
     exact hr
  ·rw [if_neg (by omega)]
   exact ⟨out, p, z, rfl, by omega, hx, hp⟩
 | succ d ih =>
  intro k out p z hp ho hx hk
  obtain ⟨k, rfl⟩ : ∃ m, k = m + 1 := ⟨k - 1, by omega⟩
  obtain ⟨r, p1, z1, e1, hr, hp1⟩ := rows_ok s hs p z 4 (by omega) hp k (by omega)
  have e1' : y_s.f k s p z 4 = some (r, p1, z1) := e1
  have hq : r.length * (r.length + 10) ≤ 4 * 14 := Nat.mul_le_mul hr (by omega)
  have hsr := srt_len r
  rw [y_p.l0, if_pos (by omega), e1', Option.bind_some]
  dsimp only
  rw [sort_spec r (by omega) k (by omega), Option.bind_some, wrap_id (by omega) (by omega), show ((d + 1 : Nat) : Int) - 1 = (d : Int) by omega]
  have hx' : ∀ x ∈ out ++ [(⟨srt r⟩ : S39)], x.f0.length ≤ 4 := fun x hxm => by
   rcases List.mem_append.1 hxm with h1 | h1
   ·exact hx x h1
   ·obtain rfl : x = ⟨srt r⟩ := by simpa using h1
    show (srt r).length ≤ 4
    omega
  have hadd : ∀ p z, ps s p → ∃ l p' z', y_p.l0 k (out ++ [⟨srt r⟩]) (d : Int) s p z = some (l, p', z') ∧ l.length ≤ out.length + (d + 1) ∧ (∀ x ∈ l, x.f0.length ≤ 4) ∧ ps s p' := by
   intro p z hp
   obtain ⟨l, p', z', e, h1, h2, h3⟩ := ih k (out ++ [⟨srt r⟩]) p z hp (by rw [List.length_append, List.length_singleton]; omega) hx' (by omega)
   rw [List.length_append, List.length_singleton] at h1
   exact ⟨l, p', z', e, by omega, h2, h3⟩
  by_cases h : 0 < (srt r).length
  ·rw [if_pos (by omega), if_pos (by omega)]
   exact hadd p1 z1 hp1
  ·rw [if_neg (by omega)]
   obtain ⟨b, p2, z2, e2, hp2⟩ := once_ok s hs p1 z1 20 hp1
   rw [e2, Option.bind_some]
   dsimp only
   cases b
   ·rw [if_neg Bool.false_ne_true]
    obtain ⟨l, p', z', e, h1, h2, h3⟩ := ih k out p2 z2 hp2 (by omega) hx (by omega)
    exact ⟨l, p', z', e, by omega, h2, h3⟩
   ·rw [if_pos rfl, if_pos (by omega)]
    exact hadd p2 z2 hp2
theorem runs_ok (s : List Int) (hs : s.length ≤ 1048576) (p z : Int) (hp : ps s p) (k : Nat) (hk : 2000 < k) : ∃ l p' z', y_p.f k s p z = some (l, p', z') ∧ l.length ≤ 4 ∧ (∀ x ∈ l, x.f0.length ≤ 4) ∧ ps s p' := by
 unfold y_p.f
 obtain ⟨c, p1, z1, e1, c0, c1, hp1⟩ := below_ok s hs p z 5 hp
 have c2 := c1 (by omega)
 rw [e1, Option.bind_some]
 dsimp only
 obtain ⟨l, p2, z2, e2, h1, h2, h3⟩ := runs_go s hs c.toNat k [] p1 z1 hp1 (by rw [List.length_nil]; omega) (fun x hx => absurd hx (by simp)) (by omega)
 have ec : ((c.toNat : Nat) : Int) = c := Int.toNat_of_nonneg c0
 rw [ec] at e2
 rw [List.length_nil] at h1
 exact ⟨l, p2, z2, e2, by omega, h2, h3⟩
theorem drawRuns_ok (s : List Int) (hs : s.length ≤ 1048576) (k : Nat) (hk : 4000 < k) : ∃ l, y_xb.f k s = some l ∧ l.length ≤ 4 ∧ (∀ x ∈ l, x.f0.length ≤ 4) := by
 unfold y_xb.f
 obtain ⟨z, e0⟩ := new_ok s hs k hk
 rw [e0, Option.bind_some]
 dsimp only
 obtain ⟨l, p1, z1, e1, h1, h2, _⟩ := runs_ok s hs 0 z (ps0 s) k (by omega)
 rw [e1, Option.bind_some]
 exact ⟨l, rfl, h1, h2⟩
theorem drawMin_ok (s : List Int) (hs : s.length ≤ 1048576) (k : Nat) (hk : 4000 < k) : ∃ l, y_wb.f k s = some l ∧ l.length ≤ 7 := by
 unfold y_wb.f
 obtain ⟨z, e0⟩ := new_ok s hs k hk
 rw [e0, Option.bind_some]
 dsimp only
 obtain ⟨l, p1, z1, e1, hl, hp1⟩ := bent_ok s hs 0 z 6 (by omega) (ps0 s) k (by omega)
 have e1' : y_vb.f k s 0 z 6 = some (l, p1, z1) := e1
 rw [e1', Option.bind_some]
 exact ⟨l, rfl, by omega⟩
def vRun (x : S39) : Bool := !decide (x.f0.length = 0) && (srtd x.f0 && vRows x.f0)
theorem vRuns_spec_go (l : List S39) (B : Nat) (hB : B ≤ 9223372036854775807) (hl : l.length ≤ 9223372036854775807) (ho : ∀ x ∈ l, x.f0.length ≤ B) (d : Nat) : ∀ (k : Nat) (i : Int), 0 ≤ i → i ≤ l.length → (l.length : Int) - i = d → d + B + 5 < k → y_q.l0 k l i = some ((l.drop i.toNat).all vRun) := by
 induction d with
 | zero =>
  intro k i h0 h1 hd hk
  obtain ⟨k, rfl⟩ : ∃ m, k = m + 1 := ⟨k - 1, by omega⟩
  simp only [y_q.l0]
  rw [if_neg (by omega), drop_end l i (by omega)]
  rfl
 | succ d ih =>
  intro k i h0 h1 hd hk
  obtain ⟨k, rfl⟩ : ∃ m, k = m + 1 := ⟨k - 1, by omega⟩
  have hm : (rd_T39 l i).f0.length ≤ B := ho _ (getD_mem l z39 i h0 (by omega))
  have hD : l.drop i.toNat = rd_T39 l i :: l.drop (i + 1).toNat := drop_getD l z39 i h0 (by omega)
  have a1 := srt_spec (rd_T39 l i).f0 (by omega) k (by omega)
  have a2 := vRows_spec (rd_T39 l i).f0 (by omega) k (by omega)
  simp only [y_q.l0]
  rw [if_pos (by omega), if_pos h0, wrap_succ h0 (n := l.length) (by omega) (by omega), ih k (i + 1) (by omega) (by omega) (by omega) (by omega), hD]
  generalize rd_T39 l i = x at *
  rw [a1, a2]
  simp only [Option.bind_some, List.all_cons, vRun]
  by_cases he : x.f0.length = 0
  ·rw [if_pos (by omega), decide_eq_true he]
   rfl
  ·rw [if_neg (by omega), decide_eq_false he]
   cases srtd x.f0 <;> cases vRows x.f0 <;> simp
theorem vRuns_spec (l : List S39) (B : Nat) (hB : B ≤ 9223372036854775807) (hl : l.length ≤ 9223372036854775807) (ho : ∀ x ∈ l, x.f0.length ≤ B) (k : Nat) (hk : l.length + B + 5 < k) : y_q.f k l = some (l.all vRun) := by
 unfold y_q.f
 exact vRuns_spec_go l B hB hl ho l.length k 0 (by omega) (by omega) (by omega) hk
theorem vRuns_impl_go (l : List S39) (B : Nat) (hB : B ≤ 9223372036854775807) (hl : l.length ≤ 9223372036854775807) (ho : ∀ x ∈ l, x.f0.length ≤ B) (d : Nat) : ∀ (k : Nat) (i : Int), 0 ≤ i → i ≤ l.length → (l.length : Int) - i = d → d + B + 5 < k → y_l.l0 k l (l.length : Int) i = some ((l.drop i.toNat).all vRun) := by
 induction d with
 | zero =>
  intro k i h0 h1 hd hk
  obtain ⟨k, rfl⟩ : ∃ m, k = m + 1 := ⟨k - 1, by omega⟩
  simp only [y_l.l0]
  rw [if_neg (by omega), drop_end l i (by omega)]
  rfl
 | succ d ih =>
  intro k i h0 h1 hd hk
  obtain ⟨k, rfl⟩ : ∃ m, k = m + 1 := ⟨k - 1, by omega⟩
  have hm : (rd_T39 l i).f0.length ≤ B := ho _ (getD_mem l z39 i h0 (by omega))
  have hD : l.drop i.toNat = rd_T39 l i :: l.drop (i + 1).toNat := drop_getD l z39 i h0 (by omega)
  have a1 := srt_impl (rd_T39 l i).f0 (by omega) k (by omega)
  have a2 := vRows_impl (rd_T39 l i).f0 (by omega) k (by omega)
  simp only [y_l.l0]
  rw [if_pos (by omega), if_pos h0, if_pos (by omega), wrap_succ h0 (n := l.length) (by omega) (by omega), ih k (i + 1) (by omega) (by omega) (by omega) (by omega), hD]
  generalize rd_T39 l i = x at *
  rw [a1, a2]
  simp only [Option.bind_some, List.all_cons, vRun]
  by_cases he : x.f0.length = 0
  ·rw [if_pos (by omega), decide_eq_true he]
   rfl
  ·rw [if_neg (by omega), decide_eq_false he]
   cases srtd x.f0 <;> cases vRows x.f0 <;> simp
theorem vRuns_impl (l : List S39) (B : Nat) (hB : B ≤ 9223372036854775807) (hl : l.length ≤ 9223372036854775807) (ho : ∀ x ∈ l, x.f0.length ≤ B) (k : Nat) (hk : l.length + B + 5 < k) : y_l.f k l = some (l.all vRun) := by
 unfold y_l.f
 exact vRuns_impl_go l B hB hl ho l.length k 0 (by omega) (by omega) (by omega) hk
theorem ba_assoc (a b c : ByteArray) : a ++ b ++ c = a ++ (b ++ c) := by
 apply ByteArray.ext
 simp only [ByteArray.data_append, Array.append_assoc]
theorem ba_nil (a : ByteArray) : (⟨#[]⟩ : ByteArray) ++ a = a := by
 apply ByteArray.ext
 simp only [ByteArray.data_append, Array.empty_append]
theorem ba_end (a : ByteArray) : a ++ (⟨#[]⟩ : ByteArray) = a := by
 apply ByteArray.ext
 simp only [ByteArray.data_append, Array.append_empty]
theorem ba_sz (a b : ByteArray) : (a ++ b).size = a.size + b.size := by simp [ByteArray.size_append]
theorem ba_sz1 (c : UInt8) : (⟨#[c]⟩ : ByteArray).size = 1 := rfl
theorem ba_sz0 : (⟨#[]⟩ : ByteArray).size = 0 := rfl
def dg (c : Nat) : ByteArray := strOfNums [48 + (c : Int)]
theorem dg_sz (c : Nat) : (dg c).size = 1 := by
 unfold dg
 rw [strOfNums_size]
 rfl
def dz (n : Nat) : ByteArray := if _h : n = 0 then ⟨#[]⟩ else dz (n / 10) ++ dg (n % 10)
termination_by n
decreasing_by omega
theorem dz_zero : dz 0 = ⟨#[]⟩ := by
 rw [dz]
 rfl
theorem dz_pos (n : Nat) (h : n ≠ 0) : dz n = dz (n / 10) ++ dg (n % 10) := by
 rw [dz, dif_neg h]
theorem dz_sz (j : Nat) : ∀ n, n < 10 ^ j → (dz n).size ≤ j := by
 induction j with
 | zero =>
  intro n hn
  obtain rfl : n = 0 := by simpa using hn
  rw [dz_zero]
  exact Nat.le_refl 0
 | succ j ih =>
  intro n hn
  by_cases h : n = 0
  ·subst h
   rw [dz_zero]
   exact Nat.zero_le _
  ·rw [dz_pos n h, ba_sz, dg_sz]
   have := ih (n / 10) (by rw [Nat.pow_succ] at hn; omega)
   omega
theorem tm_pos (x : Int) (h : 0 ≤ x) : Int.tmod x 10 = x % 10 := Int.tmod_eq_emod_of_nonneg h
theorem td_pos (x : Int) (h : 0 ≤ x) : Int.tdiv x 10 = x / 10 := Int.tdiv_eq_ediv_of_nonneg h
theorem tm_neg (y : Int) (h : 0 ≤ y) : Int.tmod (-y) 10 = -(y % 10) := by
 rw [Int.neg_tmod, tm_pos y h]
theorem td_neg (y : Int) (h : 0 ≤ y) : Int.tdiv (-y) 10 = -(y / 10) := by
 rw [Int.neg_tdiv, td_pos y h]
theorem int_spec_go (j : Nat) : ∀ (k : Nat) (x : Int) (acc : ByteArray) (neg : Bool), x.natAbs < 10 ^ j → -9223372036854775808 ≤ x → x ≤ 9223372036854775807 → acc.size + j + 1 ≤ 1000000 → j < k →
  y_k.l0 k x acc neg = some ((if neg = true then (⟨#[45]⟩ : ByteArray) else ⟨#[]⟩) ++ (dz x.natAbs ++ acc)) := by
 induction j with
 | zero =>
  intro k x acc neg hx h0 h1 ha hk
  obtain ⟨k, rfl⟩ : ∃ m, k = m + 1 := ⟨k - 1, by omega⟩
  obtain rfl : x = 0 := by
   have : x.natAbs < 1 := by simpa using hx
   omega
  rw [y_k.l0, if_pos rfl, show Int.natAbs 0 = 0 from rfl, dz_zero, ba_nil, if_pos (show 1 + acc.size ≤ 9223372036854775807 by omega)]
  cases neg
  ·rw [if_neg Bool.false_ne_true, if_neg Bool.false_ne_true, ba_nil]
  ·rw [if_pos rfl, if_pos rfl]
 | succ j ih =>
  intro k x acc neg hx h0 h1 ha hk
  obtain ⟨k, rfl⟩ : ∃ m, k = m + 1 := ⟨k - 1, by omega⟩
  rw [y_k.l0]
  by_cases hz : x = 0
  ·subst hz
   rw [if_pos rfl, show Int.natAbs 0 = 0 from rfl, dz_zero, ba_nil, if_pos (show 1 + acc.size ≤ 9223372036854775807 by omega)]
   cases neg
   ·rw [if_neg Bool.false_ne_true, if_neg Bool.false_ne_true, ba_nil]
   ·rw [if_pos rfl, if_pos rfl]
  ·rw [if_neg hz]
   have hj : x.natAbs / 10 < 10 ^ j := by
    rw [Nat.pow_succ] at hx
    omega
   have step : ∀ q : Int, q.natAbs = x.natAbs / 10 → -9223372036854775808 ≤ q → q ≤ 9223372036854775807 → y_k.l0 k q (dg (x.natAbs % 10) ++ acc) neg = some ((if neg = true then (⟨#[45]⟩ : ByteArray) else ⟨#[]⟩) ++ (dz x.natAbs ++ acc)) := by
    intro q hq hq0 hq1
    rw [ih k q _ neg (by rw [hq]; exact hj) hq0 hq1 (by rw [ba_sz, dg_sz]; omega) (by omega), hq, dz_pos x.natAbs (by omega), ba_assoc (dz _) (dg _) acc]
   rcases Int.le_total 0 x with hp | hp
   ·rw [tm_pos x hp, td_pos x hp, if_neg (by omega)]
    simp only [Option.bind_some]
    have e : (wrap64 (48 + x % 10)) % 256 = 48 + ((x.natAbs % 10 : Nat) : Int) := by
     rw [wrap_id (by omega) (by omega)]
     omega
    rw [e, wrap_id (x := x / 10) (by omega) (by omega)]
    show (if (dg (x.natAbs % 10)).size + acc.size ≤ _ then y_k.l0 k (x / 10) (dg (x.natAbs % 10) ++ acc) neg else none) = _
    rw [dg_sz, if_pos (by omega)]
    exact step (x / 10) (by omega) (by omega) (by omega)
   ·obtain ⟨y, rfl⟩ : ∃ y, x = -y := ⟨-x, by omega⟩
    rw [tm_neg y (by omega), td_neg y (by omega)]
    have e1 : (wrap64 (48 + wrap64 (-(-(y % 10))))) % 256 = 48 + (((-y).natAbs % 10 : Nat) : Int) := by
     rw [wrap_id (x := -(-(y % 10))) (by omega) (by omega), wrap_id (by omega) (by omega)]
     omega
    simp only [Option.bind_some]
    rw [e1, wrap_id (x := -(y / 10)) (by omega) (by omega)]
    by_cases hd : -(y % 10) < 0
    ·rw [if_pos hd]
     show (if (dg ((-y).natAbs % 10)).size + acc.size ≤ _ then y_k.l0 k (-(y / 10)) (dg ((-y).natAbs % 10) ++ acc) neg else none) = _
     rw [dg_sz, if_pos (by omega)]
     exact step (-(y / 10)) (by omega) (by omega) (by omega)
    ·have e2 : (wrap64 (48 + -(y % 10))) % 256 = 48 + (((-y).natAbs % 10 : Nat) : Int) := by
      rw [wrap_id (by omega) (by omega)]
      omega
     rw [if_neg hd, e2]
     show (if (dg ((-y).natAbs % 10)).size + acc.size ≤ _ then y_k.l0 k (-(y / 10)) (dg ((-y).natAbs % 10) ++ acc) neg else none) = _
     rw [dg_sz, if_pos (by omega)]
     exact step (-(y / 10)) (by omega) (by omega) (by omega)
def fI (x : Int) : ByteArray := if x = 0 then ⟨#[48]⟩ else (if x < 0 then (⟨#[45]⟩ : ByteArray) else ⟨#[]⟩) ++ dz x.natAbs
theorem abs_small (x : Int) (h0 : -9223372036854775808 ≤ x) (h1 : x ≤ 9223372036854775807) : x.natAbs < 10 ^ 19 := by
 have : (10 : Nat) ^ 19 = 10000000000000000000 := rfl
 omega
theorem fI_sz (x : Int) (h0 : -9223372036854775808 ≤ x) (h1 : x ≤ 9223372036854775807) : (fI x).size ≤ 20 := by
 have := dz_sz 19 x.natAbs (abs_small x h0 h1)
 unfold fI
 split
 ·rw [ba_sz1]
  omega
 ·rw [ba_sz]
  split
  ·rw [ba_sz1]
   omega
  ·rw [ba_sz0]
   omega
theorem fI_spec (x : Int) (h0 : -9223372036854775808 ≤ x) (h1 : x ≤ 9223372036854775807) (k : Nat) (hk : 20 ≤ k) : y_k.f k x = some (fI x) := by
 unfold y_k.f fI
 by_cases hz : x = 0
 ·rw [if_pos hz, if_pos hz]
 ·rw [if_neg hz, if_neg hz, int_spec_go 19 k x _ _ (abs_small x h0 h1) h0 h1 (by rw [ba_sz0]; omega) (by omega), ba_end]
  simp only [decide_eq_true_eq]
theorem u64_mod (x : Int) : IntKind.u64.wrap x = x % 18446744073709551616 := by
 unfold IntKind.wrap
 simp [IntKind.bits, IntKind.signed]
theorem u64_id (x : Int) (h0 : 0 ≤ x) (h1 : x < 18446744073709551616) : IntKind.u64.wrap x = x := by
 rw [u64_mod]
 omega
theorem dec_impl (j : Nat) : ∀ (k n : Nat), 0 < n → n < 10 ^ j → n < 18446744073709551616 → j ≤ 100 → j ≤ k → y_cb.f k (n : Int) = some (dz n) := by
 induction j with
 | zero =>
  intro k n h0 h1 h2 hj hk
  have : n < 1 := by simpa using h1
  omega
 | succ j ih =>
  intro k n h0 h1 h2 hj hk
  obtain ⟨k, rfl⟩ : ∃ m, k = m + 1 := ⟨k - 1, by omega⟩
  simp only [y_cb.f]
  by_cases hs : (n : Int) < 10
  ·rw [if_pos hs, u64_id _ (by omega) (by omega), dz_pos n (by omega), show n / 10 = 0 by omega, dz_zero, ba_nil, show (48 + (n : Int)) % 256 = 48 + ((n % 10 : Nat) : Int) by omega]
   rfl
  ·rw [if_neg hs, td_pos _ (by omega), tm_pos _ (by omega), u64_id ((n : Int) / 10) (by omega) (by omega), u64_id (48 + (n : Int) % 10) (by omega) (by omega), show (n : Int) / 10 = ((n / 10 : Nat) : Int) by omega, ih k (n / 10) (by omega) (by rw [Nat.pow_succ] at h1; omega) (by omega) (by omega) (by omega)]
   simp only [Option.bind_some]
   rw [show (48 + (n : Int) % 10) % 256 = 48 + ((n % 10 : Nat) : Int) by omega, dz_pos n (by omega)]
   show (if (dz (n / 10)).size + (dg (n % 10)).size ≤ _ then some (dz (n / 10) ++ dg (n % 10)) else none) = _
   have := dz_sz j (n / 10) (by rw [Nat.pow_succ] at h1; omega)
   rw [dg_sz, if_pos (by omega)]
theorem fI_impl (x : Int) (h0 : -9223372036854775808 ≤ x) (h1 : x ≤ 9223372036854775807) (k : Nat) (hk : 20 ≤ k) : y_fb.f k x = some (fI x) := by
 have ha := abs_small x h0 h1
 unfold y_fb.f fI
 by_cases hn : x < 0
 ·have e : IntKind.u64.wrap (-(IntKind.u64.wrap x)) = (x.natAbs : Int) := by
   rw [u64_mod, u64_mod]
   omega
  have := dz_sz 19 x.natAbs ha
  rw [if_pos hn, e, dec_impl 19 k x.natAbs (by omega) ha (by omega) (by omega) (by omega)]
  simp only [Option.bind_some]
  rw [if_pos (by omega), if_neg (by omega), if_pos hn]
 ·rw [if_neg hn, u64_id x (by omega) (by omega)]
  by_cases hz : x = 0
  ·obtain ⟨k, rfl⟩ : ∃ m, k = m + 1 := ⟨k - 1, by omega⟩
   subst hz
   rw [if_pos rfl, y_cb.f, if_pos (by omega), u64_id _ (by omega) (by omega)]
   rfl
  ·rw [if_neg hz, if_neg hn, ba_nil]
   have e : x = (x.natAbs : Int) := by omega
   have := dec_impl 19 k x.natAbs (by omega) ha (by omega) (by omega) (by omega)
   rw [← e] at this
   rw [this]
   rfl
def rst (s : ByteArray) : List ByteArray → ByteArray
 | [] => ⟨#[]⟩
 | t :: l => s ++ t ++ rst s l
def jnd (s : ByteArray) : List ByteArray → ByteArray
 | [] => ⟨#[]⟩
 | t :: l => t ++ rst s l
theorem rst_sz (s : ByteArray) (B : Nat) (hs : s.size = 1) (l : List ByteArray) (h : ∀ t ∈ l, t.size ≤ B) : (rst s l).size ≤ l.length * (B + 1) := by
 induction l with
 | nil => exact Nat.zero_le _
 | cons t l ih =>
  have h1 := h t List.mem_cons_self
  have h2 := ih (fun t ht => h t (List.mem_cons_of_mem _ ht))
  rw [rst, ba_sz, ba_sz, List.length_cons, Nat.succ_mul]
  omega
theorem jnd_sz (s : ByteArray) (B : Nat) (hs : s.size = 1) (l : List ByteArray) (h : ∀ t ∈ l, t.size ≤ B) : (jnd s l).size ≤ l.length * (B + 1) := by
 cases l with
 | nil => exact Nat.zero_le _
 | cons t l =>
  have h1 := h t List.mem_cons_self
  have h2 := rst_sz s B hs l (fun t ht => h t (List.mem_cons_of_mem _ ht))
  rw [jnd, ba_sz, List.length_cons, Nat.succ_mul]
  omega
theorem joined_go (s : ByteArray) (hs : s.size = 1) (l : List ByteArray) (hl : l.length ≤ 100000000) (h : ∀ t ∈ l, t.size ≤ 10000) (d : Nat) : ∀ (k : Nat) (acc : ByteArray) (i : Int), 1 ≤ i → i ≤ l.length → acc.size + d * 10001 ≤ 9000000000000000000 → (l.length : Int) - i = d → d < k →
  y_kb.l0 k s acc l (l.length : Int) i = some (acc ++ rst s (l.drop i.toNat)) := by
 induction d with
 | zero =>
  intro k acc i h0 h1 ha hd hk
  obtain ⟨k, rfl⟩ : ∃ m, k = m + 1 := ⟨k - 1, by omega⟩
  simp only [y_kb.l0]
  rw [if_neg (by omega), drop_end l i (by omega), rst, ba_end]
 | succ d ih =>
  intro k acc i h0 h1 ha hd hk
  obtain ⟨k, rfl⟩ : ∃ m, k = m + 1 := ⟨k - 1, by omega⟩
  have hD : l.drop i.toNat = rdOf ByteArray.empty l i :: l.drop (i + 1).toNat := drop_getD l ByteArray.empty i (by omega) (by omega)
  have hm : (rdOf ByteArray.empty l i).size ≤ 10000 := h _ (getD_mem l ByteArray.empty i (by omega) (by omega))
  simp only [y_kb.l0]
  rw [if_pos (by omega), if_pos (by omega), if_pos (by omega), if_pos (by omega), if_pos (by omega), if_pos (by rw [ba_sz]; omega), wrap_succ (by omega) (n := l.length) (by omega) (by omega), ih k _ (i + 1) (by omega) (by omega) (by rw [ba_sz, ba_sz]; omega) (by omega) (by omega), hD, rst]
  simp only [ba_assoc]
theorem joined_eq (s : ByteArray) (hs : s.size = 1) (l : List ByteArray) (hl : l.length ≤ 100000000) (h : ∀ t ∈ l, t.size ≤ 10000) (k : Nat) (hk : l.length < k) : y_kb.f k l s = some (jnd s l) := by
 unfold y_kb.f
 obtain ⟨k, rfl⟩ : ∃ m, k = m + 1 := ⟨k - 1, by omega⟩
 simp only [y_kb.l0]
 by_cases hz : l.length = 0
 ·rw [if_neg (by omega), List.eq_nil_of_length_eq_zero hz]
  rfl
 ·have hD : l.drop (0 : Int).toNat = rdOf ByteArray.empty l 0 :: l.drop (0 + 1 : Int).toNat := drop_getD l ByteArray.empty 0 (by omega) (by omega)
  have hm : (rdOf ByteArray.empty l 0).size ≤ 10000 := h _ (getD_mem l ByteArray.empty 0 (by omega) (by omega))
  rw [if_pos (by omega), if_pos (by omega), if_pos (by omega), if_neg (by omega), ba_nil, ba_sz0, if_pos (by omega), wrap_succ (by omega) (n := l.length) (by omega) (by omega), joined_go s hs l hl h (l.length - 1) k _ (0 + 1) (by omega) (by omega) (by omega) (by omega) (by omega)]
  rw [show l.drop (0 : Int).toNat = l from rfl] at hD
  conv => rhs; rw [hD, jnd]
def rTx (x : S71) : ByteArray := if vRow x = true then ((((fI x.f0 ++ (⟨#[46]⟩ : ByteArray)) ++ fI x.f1) ++ (⟨#[46]⟩ : ByteArray)) ++ fI x.f2) else ⟨#[]⟩
theorem rTx_sz (x : S71) : (rTx x).size ≤ 62 := by
 unfold rTx
 split
 ·have hv := (vRow_iff x).1 ‹_›
  have s0 := fI_sz x.f0 (by omega) (by omega)
  have s1 := fI_sz x.f1 (by omega) (by omega)
  have s2 := fI_sz x.f2 (by omega) (by omega)
  simp only [ba_sz, ba_sz1]
  omega
 ·rw [ba_sz0]
  omega
theorem rTx_impl (x : S71) (k : Nat) (hk : 20 ≤ k) : y_sb.f k x.f0 x.f1 x.f2 = some (rTx x) := by
 unfold y_sb.f rTx
 rw [vRow_impl]
 simp only [Option.bind_some]
 split
 ·have hv := (vRow_iff x).1 ‹_›
  have s0 := fI_sz x.f0 (by omega) (by omega)
  have s1 := fI_sz x.f1 (by omega) (by omega)
  have s2 := fI_sz x.f2 (by omega) (by omega)
  rw [fI_impl x.f0 (by omega) (by omega) k hk, fI_impl x.f1 (by omega) (by omega) k hk, fI_impl x.f2 (by omega) (by omega) k hk]
  simp only [Option.bind_some, ba_sz, ba_sz1]
  rw [if_pos (by omega), if_pos (by omega), if_pos (by omega), if_pos (by omega)]
 ·rfl
theorem rTx_spec (x : S71) (k : Nat) (hk : 20 ≤ k) : y_nb.f k x.f0 x.f1 x.f2 = some (rTx x) := by
 unfold y_nb.f rTx
 rw [vRow_spec]
 simp only [Option.bind_some]
 split
 ·have hv := (vRow_iff x).1 ‹_›
  have s0 := fI_sz x.f0 (by omega) (by omega)
  have s1 := fI_sz x.f1 (by omega) (by omega)
  have s2 := fI_sz x.f2 (by omega) (by omega)
  rw [fI_spec x.f0 (by omega) (by omega) k hk, fI_spec x.f1 (by omega) (by omega) k hk, fI_spec x.f2 (by omega) (by omega) k hk]
  simp only [Option.bind_some, ba_sz, ba_sz1]
  rw [if_pos (by omega), if_pos (by omega), if_pos (by omega), if_pos (by omega)]
 ·rfl
theorem take_map_snoc {α β : Type} (f : α → β) (l : List α) (z : α) (acc : List β) (i : Int) (h0 : 0 ≤ i) (h : i < (l.length : Int)) (ha : acc = (l.take i.toNat).map f) : acc ++ [f (l.getD i.toNat z)] = (l.take (i + 1).toNat).map f := by
 have hi : i.toNat < l.length := by omega
 rw [ha, show (i + 1).toNat = i.toNat + 1 by omega, List.take_add_one, List.map_append, List.getElem?_eq_getElem hi, List.getD_eq_getElem?_getD, List.getElem?_eq_getElem hi]
 rfl
def lTx (l : List S71) : ByteArray := if vRows l = true then jnd ⟨#[32]⟩ (l.map rTx) else ⟨#[]⟩
theorem vRows_len (l : List S71) (h : vRows l = true) : l.length ≤ 24 := by
 unfold vRows at h
 rw [Bool.and_eq_true, decide_eq_true_eq] at h
 exact h.2
theorem map_sz {α : Type} (f : α → ByteArray) (l : List α) (B : Nat) (h : ∀ x, (f x).size ≤ B) : ∀ t ∈ l.map f, t.size ≤ B := by
 intro t ht
 obtain ⟨g, _, rfl⟩ := List.mem_map.1 ht
 exact h g
theorem lTx_sz (l : List S71) : (lTx l).size ≤ 1600 := by
 unfold lTx
 split
 ·have h := vRows_len l ‹_›
  have := jnd_sz (⟨#[32]⟩ : ByteArray) 62 rfl (l.map rTx) (map_sz rTx l 62 rTx_sz)
  rw [List.length_map] at this
  omega
 ·rw [ba_sz0]
  omega
theorem fL_spec_go (l : List S71) (hv : vRows l = true) (d : Nat) : ∀ (k : Nat) (acc : ByteArray) (i : Int), 1 ≤ i → i ≤ l.length → acc.size + d * 63 ≤ 1000000 → (l.length : Int) - i = d → 2 * d + 60 < k →
  y_m.l0 k l acc i = some (acc ++ rst ⟨#[32]⟩ ((l.drop i.toNat).map rTx)) := by
 have hl := vRows_len l hv
 induction d with
 | zero =>
  intro k acc i h0 h1 ha hd hk
  obtain ⟨k, rfl⟩ : ∃ m, k = m + 1 + 1 := ⟨k - 2, by omega⟩
  rw [y_m.l0, if_neg (by omega), y_m.j1, if_neg Bool.false_ne_true, drop_end l i (by omega), List.map_nil, rst, ba_end]
 | succ d ih =>
  intro k acc i h0 h1 ha hd hk
  obtain ⟨k, rfl⟩ : ∃ m, k = m + 1 + 1 := ⟨k - 2, by omega⟩
  have hD : l.drop i.toNat = rd_T71 l i :: l.drop (i + 1).toNat := drop_getD l z71 i (by omega) (by omega)
  have hz := rTx_sz (rd_T71 l i)
  rw [y_m.l0, if_pos (by omega), vRows_spec l (by omega) (k + 1) (by omega), hv]
  simp only [Option.bind_some]
  rw [y_m.j1, if_pos rfl, if_pos (show i > 0 by omega), if_pos (show acc.size + 1 ≤ 9223372036854775807 by omega), if_pos (show 0 ≤ i by omega), if_pos (by omega), rTx_spec _ k (by omega)]
  simp only [Option.bind_some]
  rw [if_pos (by rw [ba_sz, ba_sz1]; omega), wrap_succ (by omega) (n := l.length) (by omega) (by omega), ih k _ (i + 1) (by omega) (by omega) (by rw [ba_sz, ba_sz, ba_sz1]; omega) (by omega) (by omega), hD, List.map_cons, rst]
  simp only [ba_assoc]
theorem fL_spec (l : List S71) (hl : l.length ≤ 9223372036854775807) (k : Nat) (hk : l.length + 200 < k) : y_m.f k l = some (lTx l) := by
 unfold y_m.f lTx
 obtain ⟨k, rfl⟩ : ∃ m, k = m + 1 + 1 := ⟨k - 2, by omega⟩
 rw [y_m.l0]
 by_cases hz : l.length = 0
 ·rw [if_neg (by omega), y_m.j1, if_neg Bool.false_ne_true, List.eq_nil_of_length_eq_zero hz]
  rfl
 ·rw [if_pos (by omega), vRows_spec l hl (k + 1) (by omega)]
  simp only [Option.bind_some]
  cases hv : vRows l
  ·rw [y_m.j1, if_neg Bool.false_ne_true, if_neg Bool.false_ne_true]
  ·have hl := vRows_len l hv
   have hD : l.drop (0 : Int).toNat = rd_T71 l 0 :: l.drop (0 + 1 : Int).toNat := drop_getD l z71 0 (by omega) (by omega)
   have hs := rTx_sz (rd_T71 l 0)
   rw [y_m.j1, if_pos rfl, if_pos rfl, if_neg (show ¬ (0 : Int) > 0 by omega), if_pos (show (0 : Int) ≤ 0 by omega), if_pos (by omega), rTx_spec _ k (by omega)]
   simp only [Option.bind_some]
   rw [if_pos (by rw [ba_sz0]; omega), wrap_succ (by omega) (n := l.length) (by omega) (by omega), ba_nil, fL_spec_go l hv (l.length - 1) k _ (0 + 1) (by omega) (by omega) (by omega) (by omega) (by omega)]
   rw [show l.drop (0 : Int).toNat = l from rfl] at hD
   conv => rhs; rw [hD, List.map_cons, jnd]
theorem fL_impl_go (l : List S71) (hl : l.length ≤ 24) (d : Nat) : ∀ (k : Nat) (acc : List ByteArray) (i : Int), 0 ≤ i → i ≤ l.length → acc = (l.take i.toNat).map rTx → (l.length : Int) - i = d → d + l.length + 30 < k →
  y_hb.l0 k acc l (l.length : Int) i = some (jnd ⟨#[32]⟩ (l.map rTx)) := by
 induction d with
 | zero =>
  intro k acc i h0 h1 ha hd hk
  obtain ⟨k, rfl⟩ : ∃ m, k = m + 1 := ⟨k - 1, by omega⟩
  rw [List.take_of_length_le (by omega)] at ha
  rw [y_hb.l0, if_neg (by omega), ha, joined_eq _ rfl _ (by rw [List.length_map]; omega) (map_sz rTx l 10000 (fun x => Nat.le_trans (rTx_sz x) (by omega))) k (by rw [List.length_map]; omega)]
  rfl
 | succ d ih =>
  intro k acc i h0 h1 ha hd hk
  obtain ⟨k, rfl⟩ : ∃ m, k = m + 1 := ⟨k - 1, by omega⟩
  have hal : acc.length = i.toNat := by
   rw [ha, List.length_map, List.length_take]
   omega
  have hT : acc ++ [rTx (rd_T71 l i)] = (l.take (i + 1).toNat).map rTx := take_map_snoc rTx l z71 acc i h0 (by omega) ha
  rw [y_hb.l0, if_pos (by omega), if_pos (by omega), if_pos (by omega), rTx_impl _ k (by omega)]
  simp only [Option.bind_some]
  rw [if_pos (show acc.length < 8796093022208 by omega), wrap_succ (by omega) (n := l.length) (by omega) (by omega)]
  exact ih k _ (i + 1) (by omega) (by omega) hT (by omega) (by omega)
theorem fL_impl (l : List S71) (hl : l.length ≤ 9223372036854775807) (k : Nat) (hk : l.length + 200 < k) : y_ic.f k l = some (lTx l) := by
 unfold y_ic.f lTx y_hb.f
 rw [vRows_impl l hl k (by omega)]
 simp only [Option.bind_some]
 by_cases hv : vRows l = true
 ·have := vRows_len l hv
  rw [if_pos hv, if_pos hv, fL_impl_go l this l.length k [] 0 (by omega) (by omega) rfl (by omega) (by omega)]
  rfl
 ·rw [if_neg hv, if_neg hv]
def nTx (x : S39) : ByteArray := lTx x.f0
theorem nTx_sz (x : S39) : (nTx x).size ≤ 1600 := lTx_sz x.f0
theorem fN_spec_go (l : List S39) (hl : l.length ≤ 100000000) (B : Nat) (hB : B ≤ 100000000) (ho : ∀ x ∈ l, x.f0.length ≤ B) (d : Nat) : ∀ (k : Nat) (acc : ByteArray) (i : Int), 1 ≤ i → i ≤ l.length → acc.size + d * 1601 ≤ 9000000000000000000 → (l.length : Int) - i = d → d + B + 201 < k →
  y_o.l0 k l acc i = some (acc ++ rst ⟨#[124]⟩ ((l.drop i.toNat).map nTx)) := by
 induction d with
 | zero =>
  intro k acc i h0 h1 ha hd hk
  obtain ⟨k, rfl⟩ : ∃ m, k = m + 1 := ⟨k - 1, by omega⟩
  rw [y_o.l0, if_neg (by omega), drop_end l i (by omega), List.map_nil, rst, ba_end]
 | succ d ih =>
  intro k acc i h0 h1 ha hd hk
  obtain ⟨k, rfl⟩ : ∃ m, k = m + 1 := ⟨k - 1, by omega⟩
  have hD : l.drop i.toNat = rd_T39 l i :: l.drop (i + 1).toNat := drop_getD l z39 i (by omega) (by omega)
  have hm : (rd_T39 l i).f0.length ≤ B := ho _ (getD_mem l z39 i (by omega) (by omega))
  have hz : (lTx (rd_T39 l i).f0).size ≤ 1600 := lTx_sz _
  rw [y_o.l0, if_pos (by omega), if_pos (by omega), if_pos (show acc.size + 1 ≤ 9223372036854775807 by omega), if_pos (show 0 ≤ i by omega), fL_spec _ (by omega) k (by omega)]
  simp only [Option.bind_some]
  rw [if_pos (by rw [ba_sz, ba_sz1]; omega), wrap_succ (by omega) (n := l.length) (by omega) (by omega), ih k _ (i + 1) (by omega) (by omega) (by rw [ba_sz, ba_sz, ba_sz1]; omega) (by omega) (by omega), hD, List.map_cons, rst]
  simp only [ba_assoc]
  rfl
theorem fN_spec (l : List S39) (hl : l.length ≤ 100000000) (B : Nat) (hB : B ≤ 100000000) (ho : ∀ x ∈ l, x.f0.length ≤ B) (k : Nat) (hk : l.length + B + 300 < k) : y_o.f k l = some (jnd ⟨#[124]⟩ (l.map nTx)) := by
 unfold y_o.f
 obtain ⟨k, rfl⟩ : ∃ m, k = m + 1 := ⟨k - 1, by omega⟩
 rw [y_o.l0]
 by_cases hz : l.length = 0
 ·rw [if_neg (by omega), List.eq_nil_of_length_eq_zero hz]
  rfl
 ·have hD : l.drop (0 : Int).toNat = rd_T39 l 0 :: l.drop (0 + 1 : Int).toNat := drop_getD l z39 0 (by omega) (by omega)
  have hm : (rd_T39 l 0).f0.length ≤ B := ho _ (getD_mem l z39 0 (by omega) (by omega))
  have hs : (lTx (rd_T39 l 0).f0).size ≤ 1600 := lTx_sz _
  rw [if_pos (by omega), if_neg (by omega), if_pos (show (0 : Int) ≤ 0 by omega), fL_spec _ (by omega) k (by omega)]
  simp only [Option.bind_some]
  rw [if_pos (by rw [ba_sz0]; omega), wrap_succ (by omega) (n := l.length) (by omega) (by omega), ba_nil, fN_spec_go l hl B hB ho (l.length - 1) k _ (0 + 1) (by omega) (by omega) (by omega) (by omega) (by omega)]
  rw [show l.drop (0 : Int).toNat = l from rfl] at hD
  conv => rhs; rw [hD, List.map_cons, jnd]
  rfl
theorem fN_impl_go (l : List S39) (hl : l.length ≤ 100000000) (B : Nat) (hB : B ≤ 100000000) (ho : ∀ x ∈ l, x.f0.length ≤ B) (d : Nat) : ∀ (k : Nat) (acc : List ByteArray) (i : Int), 0 ≤ i → i ≤ l.length → acc = (l.take i.toNat).map nTx → (l.length : Int) - i = d → d + l.length + B + 230 < k →
  y_t.l0 k acc l (l.length : Int) i = some (jnd ⟨#[124]⟩ (l.map nTx)) := by
 induction d with
 | zero =>
  intro k acc i h0 h1 ha hd hk
  obtain ⟨k, rfl⟩ : ∃ m, k = m + 1 := ⟨k - 1, by omega⟩
  rw [List.take_of_length_le (by omega)] at ha
  rw [y_t.l0, if_neg (by omega), ha, joined_eq _ rfl _ (by rw [List.length_map]; omega) (map_sz nTx l 10000 (fun x => Nat.le_trans (nTx_sz x) (by omega))) k (by rw [List.length_map]; omega)]
  rfl
 | succ d ih =>
  intro k acc i h0 h1 ha hd hk
  obtain ⟨k, rfl⟩ : ∃ m, k = m + 1 := ⟨k - 1, by omega⟩
  have hm : (rd_T39 l i).f0.length ≤ B := ho _ (getD_mem l z39 i (by omega) (by omega))
  have hal : acc.length = i.toNat := by
   rw [ha, List.length_map, List.length_take]
   omega
  have hT : acc ++ [nTx (rd_T39 l i)] = (l.take (i + 1).toNat).map nTx := take_map_snoc nTx l z39 acc i h0 (by omega) ha
  rw [y_t.l0, if_pos (by omega), if_pos (by omega), if_pos (by omega), fL_impl _ (by omega) k (by omega)]
  simp only [Option.bind_some]
  rw [if_pos (show acc.length < 8796093022208 by omega), wrap_succ (by omega) (n := l.length) (by omega) (by omega)]
  exact ih k _ (i + 1) (by omega) (by omega) hT (by omega) (by omega)
theorem fN_impl (l : List S39) (hl : l.length ≤ 100000000) (B : Nat) (hB : B ≤ 100000000) (ho : ∀ x ∈ l, x.f0.length ≤ B) (k : Nat) (hk : 2 * l.length + B + 300 < k) : y_t.f k l = some (jnd ⟨#[124]⟩ (l.map nTx)) := by
 unfold y_t.f
 exact fN_impl_go l hl B hB ho l.length k [] 0 (by omega) (by omega) rfl (by omega) (by omega)
theorem post_valid (l : List S71) (mem : Int) (R : List S39) (hv : vRows l = true) (p : Post l mem R) : R.all vRun = true := by
 rw [List.all_eq_true]
 intro r hr
 have hl : l.length ≤ 24 ∧ l.all vRow = true := by
  unfold vRows at hv
  rw [Bool.and_eq_true, decide_eq_true_eq] at hv
  exact ⟨hv.2, hv.1⟩
 have h1 := fl_mem R r hr
 have h2 := p.perm.length_eq
 obtain ⟨h3, h4⟩ := p.runs r hr
 have h5 : vRows r.f0 = true := by
  unfold vRows
  rw [Bool.and_eq_true, decide_eq_true_eq, List.all_eq_true]
  refine ⟨fun x hx => ?_, by omega⟩
  have : x ∈ fl R := by
   unfold fl
   exact List.mem_flatMap.2 ⟨r, hr, hx⟩
  exact (List.all_eq_true.1 hl.2) x (p.perm.subset this)
 have h6 : decide (r.f0.length = 0) = false := decide_eq_false (fun e => h3 (List.eq_nil_of_length_eq_zero e))
 have h7 : srtd r.f0 = true := (srtd_sp r.f0).2 h4
 unfold vRun
 rw [h6, h7, h5]
 rfl
theorem rs_loop (l : List S71) (mem : Int) (hm0 : 8 ≤ mem) (hm1 : mem ≤ 60) (R : List S39) (hv : vRows l = true) (p : Post l mem R) (d : Nat) : ∀ (k : Nat) (i : Int), 0 ≤ i → i < 500 → (R.length : Int) - i ≤ d → d + 20000 < k →
  y_a.l0 k l mem R i = some true := by
 have hl : l.length ≤ 24 := by
  unfold vRows at hv
  rw [Bool.and_eq_true, decide_eq_true_eq] at hv
  exact hv.2
 have h2 := p.perm.length_eq
 have h3 := fl_len R (fun r hr => (p.runs r hr).1)
 have hB : ∀ x ∈ R, x.f0.length ≤ 24 := fun x hx => by
  have := fl_mem R x hx
  omega
 have hfin : ∀ (k : Nat) (i : Int), 0 ≤ i → ¬ i + 1 < (R.length : Int) → 20000 < k → i < 1000 → y_a.l0 k l mem R i = some true := by
  intro k i h0 hi hk hi2
  obtain ⟨k, rfl⟩ : ∃ m, k = m + 1 := ⟨k - 1, by omega⟩
  rw [y_a.l0, wrap_id (by omega) (by omega), if_neg hi, vRuns_impl R 24 (by omega) (by omega) hB k (by omega), post_valid l mem R hv p, Option.bind_some, if_pos rfl, flat_impl R (by omega) (by omega) k (by omega), Option.bind_some, bags_perm (fl R) l p.perm 24 (by omega) (by omega) k (by omega), Option.bind_some, if_pos rfl, tot_spec l (by omega) k (by omega), Option.bind_some]
  by_cases ht : tot l ≤ mem
  ·have := p.one ht
   rw [if_neg (by omega), decide_eq_true (by omega)]
  ·rw [if_pos (by omega)]
 induction d with
 | zero =>
  intro k i h0 hi hd hk
  exact hfin k i h0 (by omega) (by omega) (by omega)
 | succ d ih =>
  intro k i h0 hi hd hk
  by_cases h : i + 1 < (R.length : Int)
  ·obtain ⟨k, rfl⟩ : ∃ m, k = m + 1 := ⟨k - 1, by omega⟩
   have hm : (rd_T39 R i) ∈ R.dropLast := by
    have hj : i.toNat < R.length - 1 := by omega
    have e : rd_T39 R i = R.dropLast[i.toNat]'(by rw [List.length_dropLast]; exact hj) := by
     rw [List.getElem_dropLast]
     unfold rd_T39
     rw [List.getD_eq_getElem?_getD, List.getElem?_eq_getElem (show i.toNat < R.length by omega)]
     rfl
    rw [e]
    exact List.getElem_mem _
   have ht := p.most _ hm
   have hb := hB _ (List.dropLast_subset R hm)
   rw [y_a.l0, wrap_id (x := i + 1) (by omega) (by omega), if_pos h, if_pos h0, if_pos (by omega), tot_spec _ (by omega) k (by omega), Option.bind_some, wrap_id (x := mem - 3) (by omega) (by omega), wrap_id (by omega) (by omega), if_neg (by omega)]
   exact ih k (i + 1) (by omega) (by omega) (by omega) (by omega)
  ·exact hfin k i h0 h (by omega) (by omega)
theorem FnReplacementSelection : y_a.Pure := by
 intro s _ _ _
 by_cases hb : s.length ≤ 1048576
 ·obtain ⟨m, hm⟩ : ∃ m : Nat, m = 100000 := ⟨_, rfl⟩
  obtain ⟨l, mem, e0, hl, hm0, hm1⟩ := drawBuild_ok s hb (m + 1) (by omega)
  obtain ⟨R, ok, e1, e2, hok, hno, hyes⟩ := rsel_both l (by omega) mem (m + 1) (m + 1) (by omega) (by omega)
  obtain ⟨x, e3, hx, hx2⟩ := drawRuns_ok s hb (m + 1) (by omega)
  obtain ⟨y, e4, hy⟩ := drawMin_ok s hb (m + 1) (by omega)
  obtain ⟨q, e5, e6, _, _, _, _⟩ := min_both y (by omega) (m + 1) (m + 1) (by omega) (by omega)
  have hB : ∀ r ∈ R, r.f0.length ≤ 1000 ∧ R.length ≤ 1000 := by
   intro r hr
   cases ok with
   | false =>
    rw [hno rfl] at hr
    cases hr
   | true =>
    have p := hyes rfl
    have := fl_mem R r hr
    have := fl_len R (fun r hr => (p.runs r hr).1)
    have := p.perm.length_eq
    omega
  have hR : R.length ≤ 1000 := by
   cases R with
   | nil => exact Nat.zero_le _
   | cons r R => exact (hB r List.mem_cons_self).2
  have fb := fl_bd x 4 hx2
  have a1 := sameRuns_self R (by omega) 1000 (by omega) (fun r hr => (hB r hr).1) (m + 1) (by omega)
  have a2 := vRuns_impl x 4 (by omega) (by omega) hx2 (m + 1) (by omega)
  have a3 := vRuns_spec x 4 (by omega) (by omega) hx2 (m + 1) (by omega)
  have a4 := fN_impl x (by omega) 4 (by omega) hx2 (m + 1) (by omega)
  have a5 := fN_spec x (by omega) 4 (by omega) hx2 (m + 1) (by omega)
  have a6 := flat_impl x (by omega) (by omega) (m + 1) (by omega)
  have a7 := flat_spec x (by omega) (by omega) (m + 1) (by omega)
  have a8 := sameRows_self (fl x) (by omega) (m + 1) (by omega)
  refine ⟨m + 1, ?_⟩
  unfold y_a.f
  rw [big_eq, decide_eq_false (show ¬ ((s.length : Int) > 1048576) by omega)]
  simp only [Option.bind_some, Bool.false_eq_true, if_false, e0, e1, e2, e3, e4, e5, e6, a1, a2, a3, a4, a5, a6, a7, a8, bne_self_eq_false, if_true, Bool.not_true]
  rw [y_a.j0, if_neg Bool.false_ne_true]
  cases ok with
  | false =>
   rw [if_neg Bool.false_ne_true, hno rfl]
   rfl
  | true =>
   have h := hok.symm
   rw [Bool.and_eq_true, decide_eq_true_eq] at h
   rw [if_pos rfl]
   exact rs_loop l mem h.2.1 h.2.2 R h.1 (hyes rfl) 1000 m 0 (by omega) (by omega) (by omega) (by omega)
 ·refine ⟨0, ?_⟩
  unfold y_a.f
  rw [big_eq, decide_eq_true (show ((s.length : Int) > 1048576) by omega)]
  rfl
end Go.Proofs.Ytkcicbigpbdjpaa.Pure
end
section
namespace Go.Proofs.YtkcicbigpbdjpaaW.PrintWords
open Go.ChangeShapes Go.WideShapes
theorem sized_ints {H : Type} {enc : TypeId × Value → H} {P : Program} {W : World} {base : Nat} {spare : Nat → Bool} {held : Bool} {t e : TypeId} {k : IntKind} {a : Option Addr} {len cap : Nat} {d : DataW H} {ps : List MemPlace} {ts : List TypeId} {ds : List (DataW H)} {j : Nat}
  (hsz : (DataW.weightsEach P ts ds).all (· ≤ reachBytes) = true) (ht : ts[j]? = some t) (hd : ds[j]? = some d) (hu : P.underlying t = some (.slice e)) (he : P.underlying e = some (.int k)) (hc : P.cellsOf e = 1) {B : Nat} (hB : P.bytesOf e = B)
  (h : DataW.Trod enc P W base spare held t (.slice a len cap) d ps) : len * B ≤ 140737488351232 := by
 obtain ⟨fuel, hf⟩ := h
 rcases open_ints hu he hc hf with ⟨hcs, _⟩ | ⟨x, l, c, zs, hcs, _, hl, _, hz, hx, _, _⟩
 ·simp [Value.cells] at hcs
  obtain ⟨rfl, rfl, rfl⟩ := hcs
  simp
 ·simp [Value.cells] at hcs
  obtain ⟨rfl, rfl, rfl⟩ := hcs
  obtain ⟨hx, _⟩ := Prod.mk.inj hx
  subst hx
  have z := sized_slice hsz ht hd hu
  rw [hB] at z
  have hl2 : len ≤ zs.length := by
   rw [hz]
   split
   ·exact hl
   ·exact Nat.le_refl _
  have h1 : (lits (H := H) k (zs.take len)).length + (lits (H := H) k (zs.drop len)).length = zs.length := by
   simp [lits]
   omega
  rw [h1] at z
  exact Nat.le_trans (Nat.mul_le_mul_right _ hl2) z
end Go.Proofs.YtkcicbigpbdjpaaW.PrintWords
end
