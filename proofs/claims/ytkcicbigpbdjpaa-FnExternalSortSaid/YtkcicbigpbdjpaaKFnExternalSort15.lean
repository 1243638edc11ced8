-- merged by pack.py out of MinS RSel Flat MrgS VRuns RSelW MrgN PassN Draw DrawR DrawN PureFnExternalSort WSized (words: printed by the kit's print.sh; what this claim does not use is left out)
import Derived.ChangeSlices
import Derived.SizedLaws
import Derived.Test.YtkcicbigpbdjpaaKFnExternalSort1
import Derived.Test.YtkcicbigpbdjpaaKFnExternalSort2
import Derived.Test.YtkcicbigpbdjpaaKFnExternalSort4
import Derived.Test.YtkcicbigpbdjpaaKFnExternalSort5
import Derived.Test.YtkcicbigpbdjpaaKFnExternalSort6
import Derived.Test.YtkcicbigpbdjpaaKFnExternalSort7
import Derived.Test.YtkcicbigpbdjpaaKFnExternalSort8
import Derived.Test.YtkcicbigpbdjpaaKFnExternalSort9
import Derived.Test.YtkcicbigpbdjpaaKFnExternalSort10
import Derived.Test.YtkcicbigpbdjpaaKFnExternalSort11
import Derived.Test.YtkcicbigpbdjpaaKFnExternalSort12
import Derived.Test.YtkcicbigpbdjpaaKFnExternalSort13
import Derived.Test.YtkcicbigpbdjpaaKFnExternalSort14
section
namespace Go.Proofs.Ytkcicbigpbdjpaa.Pure
open Go.RowKit Go.Proofs.Ytkcicbigpbdjpaa.P Go.Proofs.YtkcicbigpbdjpaaW.PrintWords Go.Proofs.YtkcicbigpbdjpaaW.PrintLast
theorem take_succ_rd (l : List S71) (i : Int) (h0 : 0 ≤ i) (h : i < (l.length : Int)) : l.take (i + 1).toNat = l.take i.toNat ++ [rd_T71 l i] := by
 have hi : i.toNat < l.length := by omega
 rw [show (i + 1).toNat = i.toNat + 1 by omega, List.take_add_one, List.getElem?_eq_getElem hi]
 unfold rd_T71
 rw [List.getD_eq_getElem?_getD, List.getElem?_eq_getElem hi]
 rfl
theorem min_go (l : List S71) (hl : l.length ≤ 9223372036854775807) (d : Nat) : ∀ (k : Nat) (b i : Int), 0 ≤ i → i ≤ l.length → -1 ≤ b → b < i → (b < 0 → i = 0) → (∀ y ∈ l.take i.toNat, cmpR (rd_T71 l b) y ≤ 0) → (l.length : Int) - i = d → d + 5 < k →
  ∃ r, y_h.l0 k l b i = some r ∧ y_g.l0 k l b l (l.length : Int) i = some r ∧ -1 ≤ r ∧ r < l.length ∧ (r < 0 → l.length = 0) ∧ (∀ y ∈ l, cmpR (rd_T71 l r) y ≤ 0) := by
 induction d with
 | zero =>
  intro k b i h0 h1 hb0 hb1 hb2 hm hd hk
  obtain ⟨k, rfl⟩ : ∃ m, k = m + 1 := ⟨k - 1, by omega⟩
  rw [y_h.l0, y_g.l0, if_neg (by omega), if_neg (by omega)]
  rw [List.take_of_length_le (by omega)] at hm
  exact ⟨b, rfl, rfl, hb0, by omega, fun h => by have := hb2 h; omega, hm⟩
 | succ d ih =>
  intro k b i h0 h1 hb0 hb1 hb2 hm hd hk
  obtain ⟨k, rfl⟩ : ∃ m, k = m + 1 := ⟨k - 1, by omega⟩
  have hT := take_succ_rd l i h0 (by omega)
  rw [y_h.l0, y_g.l0, if_pos (show i < (l.length : Int) by omega), if_pos (show i < (l.length : Int) by omega), if_pos h0, if_pos h0, if_pos (show i < (l.length : Int) by omega), wrap_succ h0 (n := l.length) (by omega) (by omega)]
  by_cases hb : b < 0
  ·rw [if_pos hb, if_pos hb]
   refine ih k i (i + 1) (by omega) (by omega) (by omega) (by omega) (fun h => by omega) (fun y hy => ?_) (by omega) (by omega)
   have hi := hb2 hb
   subst hi
   rw [hT] at hy
   have : y = rd_T71 l 0 := by simpa using hy
   rw [this, cmpR_self]
   exact Int.le_refl 0
  ·rw [if_neg hb, if_neg hb, if_pos (show 0 ≤ b by omega), if_pos (show 0 ≤ b by omega), if_pos (show b < (l.length : Int) by omega), if_pos (show b < (l.length : Int) by omega), cmp_spec _ _ k (by omega), cmp_impl]
   simp only [Option.bind_some]
   by_cases hc : cmpR (rd_T71 l i) (rd_T71 l b) < 0
   ·rw [if_pos hc, if_pos hc]
    refine ih k i (i + 1) (by omega) (by omega) (by omega) (by omega) (fun h => by omega) (fun y hy => ?_) (by omega) (by omega)
    rw [hT] at hy
    rcases List.mem_append.1 hy with h | h
    ·exact cmpR_trans _ _ _ (by omega) (hm y h)
    ·have : y = rd_T71 l i := by simpa using h
     rw [this, cmpR_self]
     exact Int.le_refl 0
   ·rw [if_neg hc, if_neg hc]
    refine ih k b (i + 1) (by omega) (by omega) hb0 (by omega) (fun h => by omega) (fun y hy => ?_) (by omega) (by omega)
    rw [hT] at hy
    rcases List.mem_append.1 hy with h | h
    ·exact hm y h
    ·have : y = rd_T71 l i := by simpa using h
     rw [this]
     have := cmpR_anti (rd_T71 l i) (rd_T71 l b)
     omega
theorem min_both (l : List S71) (hl : l.length ≤ 9223372036854775807) (k1 k2 : Nat) (hk1 : l.length + 5 < k1) (hk2 : l.length + 5 < k2) :
  ∃ r, y_h.f k1 l = some r ∧ y_g.f k2 l = some r ∧ -1 ≤ r ∧ r < l.length ∧ (r < 0 → l.length = 0) ∧ (∀ y ∈ l, cmpR (rd_T71 l r) y ≤ 0) := by
 obtain ⟨r, h1, h2, h⟩ := min_go l hl l.length k1 (-1) 0 (by omega) (by omega) (by omega) (by omega) (fun _ => rfl) (fun y hy => by simp at hy) (by omega) hk1
 obtain ⟨s, g1, g2, g⟩ := min_go l hl l.length k2 (-1) 0 (by omega) (by omega) (by omega) (by omega) (fun _ => rfl) (fun y hy => by simp at hy) (by omega) hk2
 obtain ⟨q, e1, e2, e⟩ := min_go l hl l.length (k1 + k2) (-1) 0 (by omega) (by omega) (by omega) (by omega) (fun _ => rfl) (fun y hy => by simp at hy) (by omega) (by omega)
 have m1 : ∀ n, y_h.f (k1 + n) l = some r := by
  intro n
  induction n with
  | zero => exact h1
  | succ n ih => exact (y_h.mono l (k1 + n)) r ih
 have m2 : ∀ n, y_g.f (k2 + n) l = some s := by
  intro n
  induction n with
  | zero => exact g2
  | succ n ih => exact (y_g.mono l (k2 + n)) s ih
 have a1 : r = q := Option.some.inj ((m1 k2).symm.trans e1)
 have a2 : s = q := Option.some.inj ((m2 k1).symm.trans (by rw [Nat.add_comm]; exact e2))
 exact ⟨r, h1, by rw [a1, ← a2]; exact g2, h⟩
def out1 (l : List S71) (i : Int) : List S71 := l.take i.toNat ++ l.drop (i + 1).toNat
theorem out1_perm (l : List S71) (i : Int) (h0 : 0 ≤ i) (h : i < (l.length : Int)) : l.Perm (rd_T71 l i :: out1 l i) := by
 have e : l = l.take i.toNat ++ rd_T71 l i :: l.drop (i + 1).toNat := by
  have := drop_getD l z71 i h0 h
  have e2 : l.getD i.toNat z71 = rd_T71 l i := rfl
  rw [← e2, ← this, List.take_append_drop]
 exact (List.Perm.of_eq e).trans List.perm_middle
theorem drop1_spec (l : List S71) (i : Int) (h0 : 0 ≤ i) (h : i < (l.length : Int)) (hl : l.length ≤ 1000000000) : y_ib.f l i = some (out1 l i) := by
 unfold y_ib.f out1
 simp only [Option.bind_some, List.nil_append, List.length_nil, List.length_take, List.length_drop, List.length_append]
 rw [wrap_succ h0 (n := l.length) h (by omega), if_pos h0, if_pos (by omega), if_pos (by omega), if_pos (by omega), if_pos (by omega), if_pos (by omega)]
theorem clone_eq (l : List S71) (hl : l.length ≤ 1000000000) : y_mb.f l = some l := by
 unfold y_mb.f
 rw [if_pos (by simp only [List.length_nil]; omega)]
 rfl
theorem taken_impl (l : List S71) (i : Int) (h0 : 0 ≤ i) (h : i < (l.length : Int)) (hl : l.length ≤ 1000000000) : y_wb.f l i = some (out1 l i) := by
 unfold y_wb.f out1
 rw [wrap_succ h0 (n := l.length) h (by omega), if_pos h0, if_pos (by omega), clone_eq _ (by rw [List.length_take]; omega)]
 simp only [Option.bind_some, List.length_take, List.length_drop]
 rw [if_pos (by omega), if_pos (by omega), if_pos (by omega)]
theorem cloneRuns_go (l : List S39) (hl : l.length ≤ 1000000000) (ho : ∀ x ∈ l, x.f0.length ≤ 1000000000) (d : Nat) : ∀ (k : Nat) (acc : List S39) (i : Int), 0 ≤ i → i ≤ l.length → acc = l.take i.toNat → (l.length : Int) - i = d → d < k →
  y_r.l0 k acc l (l.length : Int) i = some l := by
 induction d with
 | zero =>
  intro k acc i h0 h1 ha hd hk
  obtain ⟨k, rfl⟩ : ∃ m, k = m + 1 := ⟨k - 1, by omega⟩
  rw [List.take_of_length_le (by omega)] at ha
  rw [y_r.l0, if_neg (by omega), ha]
 | succ d ih =>
  intro k acc i h0 h1 ha hd hk
  obtain ⟨k, rfl⟩ : ∃ m, k = m + 1 := ⟨k - 1, by omega⟩
  have hm : (rd_T39 l i).f0.length ≤ 1000000000 := ho _ (getD_mem l z39 i h0 (by omega))
  have hal : acc.length = i.toNat := by
   rw [ha, List.length_take]
   omega
  rw [y_r.l0, if_pos (by omega), if_pos h0, if_pos (by omega), clone_eq _ hm]
  simp only [Option.bind_some]
  rw [if_pos (by omega), wrap_succ h0 (n := l.length) (by omega) (by omega)]
  refine ih k _ (i + 1) (by omega) (by omega) ?_ (by omega) (by omega)
  have hi : i.toNat < l.length := by omega
  rw [ha, show (i + 1).toNat = i.toNat + 1 by omega, List.take_add_one, List.getElem?_eq_getElem hi]
  have e : rd_T39 l i = l[i.toNat] := by
   unfold rd_T39
   rw [List.getD_eq_getElem?_getD, List.getElem?_eq_getElem hi]
   rfl
  rw [e]
  rfl
theorem cloneRuns_eq (l : List S39) (hl : l.length ≤ 1000000000) (ho : ∀ x ∈ l, x.f0.length ≤ 1000000000) (k : Nat) (hk : l.length < k) : y_r.f k l = some l := by
 unfold y_r.f
 exact cloneRuns_go l hl ho l.length k [] 0 (by omega) (by omega) rfl (by omega) hk
def fl (R : List S39) : List S71 := R.flatMap (fun r => r.f0)
theorem fl_snoc (R : List S39) (l : List S71) : fl (R ++ [⟨l⟩]) = fl R ++ l := by
 unfold fl
 rw [List.flatMap_append, List.flatMap_cons, List.flatMap_nil, List.append_nil]
theorem fl_len (R : List S39) (h : ∀ r ∈ R, r.f0 ≠ []) : R.length ≤ (fl R).length := by
 induction R with
 | nil => exact Nat.le_refl 0
 | cons r R ih =>
  have h1 := ih (fun x hx => h x (List.mem_cons_of_mem _ hx))
  have h2 := List.length_pos_iff.2 (h r List.mem_cons_self)
  unfold fl at *
  rw [List.flatMap_cons, List.length_append, List.length_cons]
  omega
theorem fl_mem (R : List S39) (r : S39) (h : r ∈ R) : r.f0.length ≤ (fl R).length := by
 induction R with
 | nil => cases h
 | cons x R ih =>
  unfold fl at *
  rw [List.flatMap_cons, List.length_append]
  rcases List.mem_cons.1 h with rfl | h
  ·omega
  ·have := ih h
   omega
theorem tot_perm (a b : List S71) (h : a.Perm b) : tot a = tot b := by
 induction h with
 | nil => rfl
 | cons x _ ih => simp only [tot, ih]
 | swap x y l =>
  simp only [tot]
  omega
 | trans _ _ h1 h2 => rw [h1, h2]
structure RInv (l : List S71) (mem : Int) (out : List S39) (cur heap next : List S71) (i : Int) : Prop where
 hi0 : 0 ≤ i
 hi1 : i ≤ l.length
 hperm : (fl out ++ cur ++ heap ++ next).Perm (l.take i.toNat)
 hout : ∀ r ∈ out, r.f0 ≠ [] ∧ SP r.f0 ∧ mem - 3 ≤ tot r.f0
 hcur : SP cur
 hlow : ∀ x ∈ cur, ∀ y ∈ heap, cmpR x y ≤ 0
 hc0 : cur = [] → next = []
 hbig : cur ≠ [] → (i = l.length ∧ next = []) ∨ mem - 3 ≤ tot cur + tot heap
 hone : tot l ≤ mem → out = [] ∧ next = [] ∧ (cur ≠ [] → i = l.length)
structure Post (l : List S71) (mem : Int) (R : List S39) : Prop where
 perm : (fl R).Perm l
 runs : ∀ r ∈ R, r.f0 ≠ [] ∧ SP r.f0
 most : ∀ r ∈ R.dropLast, mem - 3 ≤ tot r.f0
 one : tot l ≤ mem → R.length ≤ 1
theorem inv_len {l : List S71} {mem : Int} {out : List S39} {cur heap next : List S71} {i : Int} (h : RInv l mem out cur heap next i) :
  (fl out).length + cur.length + heap.length + next.length = i.toNat := by
 have := h.hperm.length_eq
 simp only [List.length_append, List.length_take] at this
 have := h.hi1
 have := h.hi0
 omega
theorem inv_tot {l : List S71} {mem : Int} {out : List S39} {cur heap next : List S71} {i : Int} (h : RInv l mem out cur heap next i) :
  tot heap + tot next + tot (l.drop i.toNat) ≤ tot l := by
 have e := tot_perm _ _ h.hperm
 simp only [tot_append] at e
 have e2 := tot_append (l.take i.toNat) (l.drop i.toNat)
 rw [List.take_append_drop] at e2
 have := tot_bd (fl out)
 have := tot_bd cur
 omega
theorem cost_drop (l : List S71) (i : Int) (h0 : 0 ≤ i) (h : i < (l.length : Int)) : cost (rd_T71 l i) ≤ tot (l.drop i.toNat) := by
 have e : l.drop i.toNat = rd_T71 l i :: l.drop (i + 1).toNat := drop_getD l z71 i h0 h
 have := tot_bd (l.drop (i + 1).toNat)
 rw [e]
 simp only [tot]
 omega
theorem inv_end {l : List S71} {mem : Int} {out : List S39} {cur : List S71} {i : Int} (h : RInv l mem out cur [] [] i) (hi : ¬ i < l.length) :
  Post l mem (if 0 < cur.length then out ++ [⟨cur⟩] else out) := by
 have hp := h.hperm
 rw [List.take_of_length_le (by omega), List.append_nil, List.append_nil] at hp
 split
 ·refine ⟨by rw [fl_snoc]; exact hp, fun r hr => ?_, fun r hr => ?_, fun ht => ?_⟩
  ·rcases List.mem_append.1 hr with h1 | h1
   ·exact ⟨(h.hout r h1).1, (h.hout r h1).2.1⟩
   ·obtain rfl : r = ⟨cur⟩ := by simpa using h1
    exact ⟨List.ne_nil_of_length_pos ‹_›, h.hcur⟩
  ·rw [List.dropLast_concat] at hr
   exact (h.hout r hr).2.2
  ·rw [(h.hone ht).1]
   exact Nat.le_refl 1
 ·have hc : cur = [] := List.eq_nil_of_length_eq_zero (by omega)
  rw [hc, List.append_nil] at hp
  refine ⟨hp, fun r hr => ⟨(h.hout r hr).1, (h.hout r hr).2.1⟩, fun r hr => (h.hout r (List.dropLast_subset out hr)).2.2, fun ht => ?_⟩
  rw [(h.hone ht).1]
  exact Nat.zero_le 1
theorem inv_next {l : List S71} {mem : Int} {out : List S39} {cur heap next : List S71} {i : Int} (h : RInv l mem out cur heap next i) (hi : i < l.length) (hc : cur ≠ []) :
  RInv l mem out cur heap (next ++ [rd_T71 l i]) (i + 1) := by
 have h0 := h.hi0
 refine ⟨by omega, by omega, ?_, h.hout, h.hcur, h.hlow, fun e => absurd e hc, fun _ => ?_, fun ht => ?_⟩
 ·rw [take_succ_rd l i h0 hi, ← List.append_assoc]
  exact h.hperm.append_right _
 ·rcases h.hbig hc with h1 | h1
  ·omega
  ·exact Or.inr h1
 ·have := (h.hone ht).2.2 hc
  omega
theorem inv_heap {l : List S71} {mem : Int} {out : List S39} {cur heap next : List S71} {i : Int} (h : RInv l mem out cur heap next i) (hi : i < l.length) (hc : ∀ x ∈ cur, cmpR x (rd_T71 l i) ≤ 0) :
  RInv l mem out cur (heap ++ [rd_T71 l i]) next (i + 1) := by
 have h0 := h.hi0
 refine ⟨by omega, by omega, ?_, h.hout, h.hcur, fun x hx y hy => ?_, h.hc0, fun hn => ?_, fun ht => ⟨(h.hone ht).1, (h.hone ht).2.1, fun hn => ?_⟩⟩
 ·rw [take_succ_rd l i h0 hi]
  have e : (fl out ++ cur ++ (heap ++ [rd_T71 l i]) ++ next).Perm (fl out ++ cur ++ heap ++ next ++ [rd_T71 l i]) := by
   simp only [List.append_assoc]
   exact List.Perm.append_left _ (List.Perm.append_left _ (List.Perm.append_left _ List.perm_append_comm))
  exact e.trans (h.hperm.append_right _)
 ·rcases List.mem_append.1 hy with h1 | h1
  ·exact h.hlow x hx y h1
  ·obtain rfl : y = rd_T71 l i := by simpa using h1
   exact hc x hx
 ·rcases h.hbig hn with h1 | h1
  ·omega
  ·right
   have := cost_bd (rd_T71 l i)
   rw [tot_append]
   simp only [tot]
   omega
 ·have := (h.hone ht).2.2 hn
  omega
theorem inv_flush {l : List S71} {mem : Int} {out : List S39} {cur next : List S71} {i : Int} (h : RInv l mem out cur [] next i) (hn : next ≠ []) :
  RInv l mem (out ++ [⟨cur⟩]) [] next [] i := by
 have hc : cur ≠ [] := fun e => hn (h.hc0 e)
 refine ⟨h.hi0, h.hi1, ?_, fun r hr => ?_, List.Pairwise.nil, fun x hx => absurd hx (by simp), fun _ => rfl, fun e => absurd rfl e, fun ht => absurd (h.hone ht).2.1 hn⟩
 ·rw [fl_snoc]
  simpa using h.hperm
 ·rcases List.mem_append.1 hr with h1 | h1
  ·exact h.hout r h1
  ·obtain rfl : r = ⟨cur⟩ := by simpa using h1
   refine ⟨hc, h.hcur, ?_⟩
   rcases h.hbig hc with h2 | h2
   ·exact absurd h2.2 hn
   ·simpa [tot] using h2
theorem inv_pop {l : List S71} {mem : Int} {out : List S39} {cur heap next : List S71} {i : Int} (h : RInv l mem out cur heap next i) (m : Int) (hm0 : 0 ≤ m) (hm1 : m < heap.length) (hmin : ∀ y ∈ heap, cmpR (rd_T71 heap m) y ≤ 0)
  (hf : i < l.length → mem < tot heap + tot next + cost (rd_T71 l i)) : RInv l mem out (cur ++ [rd_T71 heap m]) (out1 heap m) next i := by
 have hp := out1_perm heap m hm0 hm1
 have hx : rd_T71 heap m ∈ heap := hp.symm.subset List.mem_cons_self
 have hs : ∀ y ∈ out1 heap m, y ∈ heap := fun y hy => hp.symm.subset (List.mem_cons_of_mem _ hy)
 have ht := tot_perm _ _ hp
 simp only [tot] at ht
 generalize rd_T71 heap m = x at *
 generalize out1 heap m = heap' at *
 have ne : cur ++ [x] ≠ [] := by simp
 refine ⟨h.hi0, h.hi1, ?_, h.hout, ?_, fun a ha y hy => ?_, fun e => absurd e ne, fun _ => ?_, fun hT => ⟨(h.hone hT).1, (h.hone hT).2.1, fun _ => ?_⟩⟩
 ·refine List.Perm.trans ?_ h.hperm
  have e : (cur ++ [x] ++ heap').Perm (cur ++ heap) := by
   rw [List.append_assoc]
   exact List.Perm.append_left _ hp.symm
  have e2 := (e.append_left (fl out)).append_right next
  simpa [List.append_assoc] using e2
 ·unfold SP
  rw [List.pairwise_append]
  refine ⟨h.hcur, List.pairwise_singleton _ _, fun a ha b hb => ?_⟩
  obtain rfl : b = x := by simpa using hb
  exact h.hlow a ha b hx
 ·rcases List.mem_append.1 ha with h1 | h1
  ·exact h.hlow a h1 y (hs y hy)
  ·obtain rfl : a = x := by simpa using h1
   exact hmin y (hs y hy)
 ·rw [tot_append]
  simp only [tot]
  by_cases hc : cur = []
  ·by_cases hi : i < l.length
   ·right
    have h1 := hf hi
    have h2 := cost_bd (rd_T71 l i)
    have h3 : tot next = 0 := by rw [h.hc0 hc]; rfl
    have h4 : tot cur = 0 := by rw [hc]; rfl
    omega
   ·exact Or.inl ⟨by have := h.hi1; omega, h.hc0 hc⟩
  ·rcases h.hbig hc with h1 | h1
   ·exact Or.inl h1
   ·right
    omega
 ·by_cases hi : i < l.length
  ·have h1 := hf hi
   have h2 := inv_tot h
   have h3 := cost_drop l i h.hi0 hi
   omega
  ·have := h.hi1
   omega
theorem fl_cons (x : S39) (l : List S39) : fl (x :: l) = x.f0 ++ fl l := by
 unfold fl
 rw [List.flatMap_cons]
theorem flat_impl_go (l : List S39) (hl : l.length ≤ 100000000) (d : Nat) : ∀ (k : Nat) (out : List S71) (i : Int), 0 ≤ i → i ≤ l.length → out.length + (fl (l.drop i.toNat)).length ≤ 1000000000000 → (l.length : Int) - i = d → d < k →
  y_fb.l0 k out l (l.length : Int) i = some (out ++ fl (l.drop i.toNat)) := by
 induction d with
 | zero =>
  intro k out i h0 h1 ho hd hk
  obtain ⟨k, rfl⟩ : ∃ m, k = m + 1 := ⟨k - 1, by omega⟩
  rw [y_fb.l0, if_neg (by omega), drop_end l i (by omega)]
  exact congrArg some (List.append_nil out).symm
 | succ d ih =>
  intro k out i h0 h1 ho hd hk
  obtain ⟨k, rfl⟩ : ∃ m, k = m + 1 := ⟨k - 1, by omega⟩
  have hD : l.drop i.toNat = rd_T39 l i :: l.drop (i + 1).toNat := drop_getD l z39 i h0 (by omega)
  rw [hD, fl_cons, List.length_append] at ho
  rw [y_fb.l0, if_pos (by omega), if_pos h0, if_pos (by omega), if_pos (by omega), wrap_succ h0 (n := l.length) (by omega) (by omega), ih k _ (i + 1) (by omega) (by omega) (by rw [List.length_append]; omega) (by omega) (by omega), hD, fl_cons, List.append_assoc]
theorem flat_impl (l : List S39) (hl : l.length ≤ 100000000) (ho : (fl l).length ≤ 1000000000000) (k : Nat) (hk : l.length < k) : y_fb.f k l = some (fl l) := by
 unfold y_fb.f
 exact flat_impl_go l hl l.length k [] 0 (by omega) (by omega) (by simp only [List.length_nil, Int.toNat_zero, List.drop_zero]; omega) (by omega) hk
theorem sameRows_go (l : List S71) (hl : l.length ≤ 9223372036854775807) (d : Nat) : ∀ (k : Nat) (i : Int), 0 ≤ i → i ≤ l.length → (l.length : Int) - i = d → d < k → y_s.l0 k l l i = some true := by
 induction d with
 | zero =>
  intro k i h0 h1 hd hk
  obtain ⟨k, rfl⟩ : ∃ m, k = m + 1 := ⟨k - 1, by omega⟩
  rw [y_s.l0, if_neg (by omega)]
 | succ d ih =>
  intro k i h0 h1 hd hk
  obtain ⟨k, rfl⟩ : ∃ m, k = m + 1 := ⟨k - 1, by omega⟩
  rw [y_s.l0, if_pos (by omega), if_pos h0, if_pos (by omega), if_neg (by simp), wrap_succ h0 (n := l.length) (by omega) (by omega)]
  exact ih k (i + 1) (by omega) (by omega) (by omega) (by omega)
theorem sameRows_self (l : List S71) (hl : l.length ≤ 9223372036854775807) (k : Nat) (hk : l.length < k) : y_s.f k l l = some true := by
 unfold y_s.f
 rw [if_pos rfl]
 exact sameRows_go l hl l.length k 0 (by omega) (by omega) (by omega) hk
theorem srtd_sp (l : List S71) : srtd l = true ↔ SP l := by
 unfold SP
 induction l with
 | nil => exact ⟨fun _ => List.Pairwise.nil, fun _ => rfl⟩
 | cons x l ih =>
  cases l with
  | nil => exact ⟨fun _ => List.pairwise_singleton _ _, fun _ => rfl⟩
  | cons y l =>
   rw [srtd, Bool.and_eq_true, decide_eq_true_eq, ih]
   constructor
   ·rintro ⟨h1, h2⟩
    refine List.pairwise_cons.2 ⟨fun z hz => ?_, h2⟩
    rcases List.mem_cons.1 hz with rfl | hz
    ·exact h1
    ·exact cmpR_trans x y z h1 ((List.pairwise_cons.1 h2).1 z hz)
   ·intro h
    obtain ⟨h1, h2⟩ := List.pairwise_cons.1 h
    exact ⟨h1 y List.mem_cons_self, h2⟩
def leR (x y : S71) : Bool := decide (cmpR x y ≤ 0)
def mrg (a b : List S71) : List S71 := a.merge b leR
theorem mrg_nil_left (b : List S71) : mrg [] b = b := List.nil_merge _
theorem mrg_nil_right (a : List S71) : mrg a [] = a := List.merge_right _
theorem mrg_left (x y : S71) (a b : List S71) (h : cmpR x y ≤ 0) : mrg (x :: a) (y :: b) = x :: mrg a (y :: b) := by
 unfold mrg
 rw [List.cons_merge_cons, if_pos (show leR x y = true from decide_eq_true h)]
theorem mrg_right (x y : S71) (a b : List S71) (h : ¬ cmpR x y ≤ 0) : mrg (x :: a) (y :: b) = y :: mrg (x :: a) b := by
 unfold mrg
 rw [List.cons_merge_cons, if_neg (show ¬ leR x y = true from fun e => h (of_decide_eq_true e))]
theorem mrg_perm (a b : List S71) : (mrg a b).Perm (a ++ b) := List.merge_perm_append _
theorem snoc_cons {α : Type} (out : List α) (x : α) (l : List α) : out ++ [x] ++ l = out ++ x :: l := by simp
theorem mrg_impl_go (d : Nat) : ∀ (k : Nat) (a b out : List S71), a.length + b.length = d → out.length + d ≤ 1000000000000 → 2 * d + 4 < k → y_d.l0 k a b out = some (out ++ mrg a b) := by
 induction d with
 | zero =>
  intro k a b out hd ho hk
  obtain ⟨k, rfl⟩ : ∃ m, k = m + 2 := ⟨k - 2, by omega⟩
  obtain rfl : a = [] := List.eq_nil_of_length_eq_zero (by omega)
  obtain rfl : b = [] := List.eq_nil_of_length_eq_zero (by omega)
  simp only [y_d.l0, y_d.j1, mrg_nil_left]
  simp
 | succ d ih =>
  intro k a b out hd ho hk
  obtain ⟨k, rfl⟩ : ∃ m, k = m + 2 := ⟨k - 2, by omega⟩
  match a, b with
  | [], [] => simp at hd
  | [], y :: b =>
   have hb : b.length = d := by simpa using hd
   simp only [y_d.l0, y_d.j1]
   rw [if_neg (by simp), decide_eq_true (by simp only [List.length_cons]; omega), if_pos rfl, if_neg (by simp only [List.length_cons]; omega), if_neg (by simp), if_pos (by simp only [List.length_cons]; omega), if_pos (by omega), if_pos (by simp only [List.length_cons]; omega)]
   rw [show List.drop 1 (y :: b) = b from rfl, ih k [] b _ (by simpa using hb) (by simp only [List.length_append, List.length_singleton]; omega) (by omega), mrg_nil_left, mrg_nil_left]
   rw [snoc_cons]
   rfl
  | x :: a, [] =>
   have ha : a.length = d := by simpa using hd
   simp only [y_d.l0, y_d.j1]
   rw [if_pos (by simp only [List.length_cons]; omega), if_true, if_pos (by simp), if_pos (by simp only [List.length_cons]; omega), if_pos (by omega), if_pos (by simp only [List.length_cons]; omega)]
   rw [show List.drop 1 (x :: a) = a from rfl, ih k a [] _ (by simpa using ha) (by simp only [List.length_append, List.length_singleton]; omega) (by omega), mrg_nil_right, mrg_nil_right]
   rw [snoc_cons]
   rfl
  | x :: a, y :: b =>
   have hl : a.length + b.length + 1 = d := by simp only [List.length_cons] at hd; omega
   simp only [y_d.l0, y_d.j1]
   rw [if_pos (by simp only [List.length_cons]; omega), if_true, if_neg (by simp only [List.length_cons]; omega), if_pos (by simp only [List.length_cons]; omega), if_pos (by simp only [List.length_cons]; omega), if_pos (by simp only [List.length_cons]; omega), cmp_impl]
   simp only [Option.bind_some]
   show (if cmpR x y ≤ 0 then _ else _) = _
   by_cases hc : cmpR x y ≤ 0
   ·rw [if_pos hc, if_pos (by omega), if_pos (by simp only [List.length_cons]; omega), show List.drop 1 (x :: a) = a from rfl, ih k a (y :: b) _ (by simp only [List.length_cons]; omega) (by simp only [List.length_append, List.length_singleton]; omega) (by omega), mrg_left x y a b hc, snoc_cons]
    rfl
   ·rw [if_neg hc, if_pos (by omega), if_pos (by simp only [List.length_cons]; omega), show List.drop 1 (y :: b) = b from rfl, ih k (x :: a) b _ (by simp only [List.length_cons]; omega) (by simp only [List.length_append, List.length_singleton]; omega) (by omega), mrg_right x y a b hc, snoc_cons]
    rfl
theorem mrg_impl (a b : List S71) (hl : a.length + b.length ≤ 1000000000000) (k : Nat) (hk : 2 * (a.length + b.length) + 4 < k) : y_d.f k a b = some (mrg a b) := by
 unfold y_d.f
 rw [mrg_impl_go (a.length + b.length) k a b [] rfl (by simpa using hl) hk]
 rfl
theorem mrg_spec_go (a b : List S71) (ha : a.length ≤ 1000000000000) (hb : b.length ≤ 1000000000000) (d : Nat) : ∀ (k : Nat) (out : List S71) (i j : Int), 0 ≤ i → i ≤ a.length → 0 ≤ j → j ≤ b.length →
  ((a.length : Int) - i) + ((b.length : Int) - j) = d → out.length + d ≤ 1000000000000 → 2 * d + 8 < k → y_e.l0 k a b out i j = some (out ++ mrg (a.drop i.toNat) (b.drop j.toNat)) := by
 induction d with
 | zero =>
  intro k out i j hi0 hi1 hj0 hj1 hd ho hk
  obtain ⟨k, rfl⟩ : ∃ m, k = m + 2 := ⟨k - 2, by omega⟩
  simp only [y_e.l0, y_e.j1]
  rw [if_neg (by omega), decide_eq_false (by omega), if_neg (by decide), drop_end a i (by omega), drop_end b j (by omega), mrg_nil_left]
  simp
 | succ d ih =>
  intro k out i j hi0 hi1 hj0 hj1 hd ho hk
  obtain ⟨k, rfl⟩ : ∃ m, k = m + 2 := ⟨k - 2, by omega⟩
  simp only [y_e.l0, y_e.j1]
  by_cases hi : i < (a.length : Int)
  ·rw [if_pos hi, if_true, wrap_succ hi0 hi (by omega)]
   have da := drop_getD a z71 i hi0 hi
   by_cases hj : j = (b.length : Int)
   ·rw [if_pos hj, if_pos hi0, if_pos hi, if_pos (by omega), ih k _ (i + 1) j (by omega) (by omega) (by omega) (by omega) (by omega) (by simp only [List.length_append, List.length_singleton]; omega) (by omega), da, drop_end b j (by omega), mrg_nil_right, mrg_nil_right, snoc_cons]
    rfl
   ·have db := drop_getD b z71 j hj0 (by omega)
    rw [if_neg hj, if_pos hi, if_pos hi0, if_pos hj0, if_pos (show j < (b.length : Int) by omega), cmp_spec _ _ k (by omega), wrap_succ hj0 (n := b.length) (by omega) (by omega)]
    simp only [Option.bind_some]
    by_cases hc : cmpR (rd_T71 a i) (rd_T71 b j) ≤ 0
    ·rw [if_pos hc, if_pos (by omega), ih k _ (i + 1) j (by omega) (by omega) (by omega) (by omega) (by omega) (by simp only [List.length_append, List.length_singleton]; omega) (by omega), da, db, mrg_left _ _ _ _ (show cmpR (a.getD i.toNat z71) (b.getD j.toNat z71) ≤ 0 from hc), snoc_cons]
     rfl
    ·rw [if_neg hc, if_pos (by omega), ih k _ i (j + 1) (by omega) (by omega) (by omega) (by omega) (by omega) (by simp only [List.length_append, List.length_singleton]; omega) (by omega), da, db, mrg_right _ _ _ _ (show ¬ cmpR (a.getD i.toNat z71) (b.getD j.toNat z71) ≤ 0 from hc), snoc_cons]
     rfl
  ·have hj : j < (b.length : Int) := by omega
   have db := drop_getD b z71 j hj0 hj
   rw [if_neg hi, decide_eq_true hj, if_pos rfl, if_neg (by omega), if_neg hi, if_pos hj0, if_pos hj, if_pos (by omega), wrap_succ hj0 hj (by omega), ih k _ i (j + 1) (by omega) (by omega) (by omega) (by omega) (by omega) (by simp only [List.length_append, List.length_singleton]; omega) (by omega), db, drop_end a i (by omega), mrg_nil_left, mrg_nil_left, snoc_cons]
   rfl
theorem mrg_spec (a b : List S71) (hl : a.length + b.length ≤ 1000000000000) (k : Nat) (hk : 2 * (a.length + b.length) + 8 < k) : y_e.f k a b = some (mrg a b) := by
 unfold y_e.f
 rw [mrg_spec_go a b (by omega) (by omega) (a.length + b.length) k [] 0 0 (by omega) (by omega) (by omega) (by omega) (by omega) (by simpa using hl) hk]
 rfl
def vRun (x : S39) : Bool := !decide (x.f0.length = 0) && (srtd x.f0 && vRows x.f0)
theorem vRuns_spec_go (l : List S39) (B : Nat) (hB : B ≤ 9223372036854775807) (hl : l.length ≤ 9223372036854775807) (ho : ∀ x ∈ l, x.f0.length ≤ B) (d : Nat) : ∀ (k : Nat) (i : Int), 0 ≤ i → i ≤ l.length → (l.length : Int) - i = d → d + B + 5 < k → y_ab.l0 k l i = some ((l.drop i.toNat).all vRun) := by
 induction d with
 | zero =>
  intro k i h0 h1 hd hk
  obtain ⟨k, rfl⟩ : ∃ m, k = m + 1 := ⟨k - 1, by omega⟩
  simp only [y_ab.l0]
  rw [if_neg (by omega), drop_end l i (by omega)]
  rfl
 | succ d ih =>
  intro k i h0 h1 hd hk
  obtain ⟨k, rfl⟩ : ∃ m, k = m + 1 := ⟨k - 1, by omega⟩
  have hm : (rd_T39 l i).f0.length ≤ B := ho _ (getD_mem l z39 i h0 (by omega))
  have hD : l.drop i.toNat = rd_T39 l i :: l.drop (i + 1).toNat := drop_getD l z39 i h0 (by omega)
  have a1 := srt_spec (rd_T39 l i).f0 (by omega) k (by omega)
  have a2 := vRows_spec (rd_T39 l i).f0 (by omega) k (by omega)
  simp only [y_ab.l0]
  rw [if_pos (by omega), if_pos h0, wrap_succ h0 (n := l.length) (by omega) (by omega), ih k (i + 1) (by omega) (by omega) (by omega) (by omega), hD]
  generalize rd_T39 l i = x at *
  rw [a1, a2]
  simp only [Option.bind_some, List.all_cons, vRun]
  by_cases he : x.f0.length = 0
  ·rw [if_pos (by omega), decide_eq_true he]
   rfl
  ·rw [if_neg (by omega), decide_eq_false he]
   cases srtd x.f0 <;> cases vRows x.f0 <;> simp
theorem vRuns_spec (l : List S39) (B : Nat) (hB : B ≤ 9223372036854775807) (hl : l.length ≤ 9223372036854775807) (ho : ∀ x ∈ l, x.f0.length ≤ B) (k : Nat) (hk : l.length + B + 5 < k) : y_ab.f k l = some (l.all vRun) := by
 unfold y_ab.f
 exact vRuns_spec_go l B hB hl ho l.length k 0 (by omega) (by omega) (by omega) hk
theorem vRuns_impl_go (l : List S39) (B : Nat) (hB : B ≤ 9223372036854775807) (hl : l.length ≤ 9223372036854775807) (ho : ∀ x ∈ l, x.f0.length ≤ B) (d : Nat) : ∀ (k : Nat) (i : Int), 0 ≤ i → i ≤ l.length → (l.length : Int) - i = d → d + B + 5 < k → y_z.l0 k l (l.length : Int) i = some ((l.drop i.toNat).all vRun) := by
 induction d with
 | zero =>
  intro k i h0 h1 hd hk
  obtain ⟨k, rfl⟩ : ∃ m, k = m + 1 := ⟨k - 1, by omega⟩
  simp only [y_z.l0]
  rw [if_neg (by omega), drop_end l i (by omega)]
  rfl
 | succ d ih =>
  intro k i h0 h1 hd hk
  obtain ⟨k, rfl⟩ : ∃ m, k = m + 1 := ⟨k - 1, by omega⟩
  have hm : (rd_T39 l i).f0.length ≤ B := ho _ (getD_mem l z39 i h0 (by omega))
  have hD : l.drop i.toNat = rd_T39 l i :: l.drop (i + 1).toNat := drop_getD l z39 i h0 (by omega)
  have a1 := srt_impl (rd_T39 l i).f0 (by omega) k (by omega)
  have a2 := vRows_impl (rd_T39 l i).f0 (by omega) k (by omega)
  simp only [y_z.l0]
  rw [if_pos (by omega), if_pos h0, if_pos (by omega), wrap_succ h0 (n := l.length) (by omega) (by omega), ih k (i + 1) (by omega) (by omega) (by omega) (by omega), hD]
  generalize rd_T39 l i = x at *
  rw [a1, a2]
  simp only [Option.bind_some, List.all_cons, vRun]
  by_cases he : x.f0.length = 0
  ·rw [if_pos (by omega), decide_eq_true he]
   rfl
  ·rw [if_neg (by omega), decide_eq_false he]
   cases srtd x.f0 <;> cases vRows x.f0 <;> simp
theorem vRuns_impl (l : List S39) (B : Nat) (hB : B ≤ 9223372036854775807) (hl : l.length ≤ 9223372036854775807) (ho : ∀ x ∈ l, x.f0.length ≤ B) (k : Nat) (hk : l.length + B + 5 < k) : y_z.f k l = some (l.all vRun) := by
 unfold y_z.f
 exact vRuns_impl_go l B hB hl ho l.length k 0 (by omega) (by omega) (by omega) hk
theorem wrap_sub1 {n : Nat} (h : 0 < n) (hn : n ≤ 9223372036854775807) : wrap64 ((n : Int) - 1) = (n : Int) - 1 := wrap_id (by omega) (by omega)
theorem last_le (l : List S71) (hs : SP l) (x : S71) (h0 : 0 < l.length) (h : cmpR (rd_T71 l ((l.length : Int) - 1)) x ≤ 0) : ∀ y ∈ l, cmpR y x ≤ 0 := by
 have := getD_le l hs (l.length - 1) (by omega) x (by
  have e : ((l.length : Int) - 1).toNat = l.length - 1 := by omega
  unfold rd_T71 at h
  rw [e] at h
  exact h)
 rw [List.take_of_length_le (by omega)] at this
 exact this
def less (x : S71) (cur : List S71) : Bool := decide (0 < cur.length) && decide (cmpR x (rd_T71 cur ((cur.length : Int) - 1)) < 0)
theorem below_impl (x : S71) (cur : List S71) (hl : cur.length ≤ 1000000000) : y_db.f x.f0 x.f1 x.f2 cur = some (less x cur) := by
 unfold y_db.f less
 by_cases h : 0 < cur.length
 ·rw [if_pos (by omega), wrap_sub1 h (by omega), if_pos (by omega), if_pos (by omega), cmp_impl, decide_eq_true h]
  simp
 ·rw [if_neg (by omega), decide_eq_false h]
  rfl
theorem less_no (x : S71) (cur : List S71) (hs : SP cur) (h : less x cur = false) : ∀ y ∈ cur, cmpR y x ≤ 0 := by
 by_cases h0 : 0 < cur.length
 ·refine last_le cur hs x h0 ?_
  unfold less at h
  rw [decide_eq_true h0, Bool.true_and, decide_eq_false_iff_not] at h
  have := cmpR_anti x (rd_T71 cur ((cur.length : Int) - 1))
  omega
 ·intro y hy
  have e : cur = [] := List.eq_nil_of_length_eq_zero (by omega)
  rw [e] at hy
  cases hy
theorem less_yes (x : S71) (cur : List S71) (h : less x cur = true) : cur ≠ [] := by
 intro e
 rw [e] at h
 exact Bool.false_ne_true h
def rdb (l : List S71) (mem : Int) (heap next : List S71) (i : Int) : Bool := decide (i < (l.length : Int)) && decide (tot heap + tot next + cost (rd_T71 l i) ≤ mem)
theorem j2_spec (l : List S71) (mem : Int) (out : List S39) (cur heap next : List S71) (i : Int) (h0 : 0 ≤ i) (hh : heap.length ≤ 1000000000) (hn : next.length ≤ 1000000000) (k : Nat) (hk1 : heap.length < k) (hk2 : next.length < k) :
  y_a.j2 (k + 1) l mem out cur heap next i true = y_a.j3 k l mem out cur heap next i (rdb l mem heap next i) := by
 have b1 := tot_bd heap
 have b2 := tot_bd next
 have b3 := cost_bd (rd_T71 l i)
 rw [y_a.j2, if_pos rfl]
 unfold rdb
 by_cases h : i < (l.length : Int)
 ·rw [if_pos h, tot_spec heap (by omega) k hk1, tot_spec next (by omega) k hk2]
  simp only [Option.bind_some]
  rw [if_pos h0, cost_spec]
  simp only [Option.bind_some]
  rw [wrap_id (x := tot heap + tot next) (by omega) (by omega), wrap_id (by omega) (by omega), decide_eq_true h, Bool.true_and]
 ·rw [if_neg h, decide_eq_false h]
  rfl
theorem l0_impl (l : List S71) (mem : Int) (out : List S39) (cur heap next : List S71) (i : Int) (h0 : 0 ≤ i) (hh : heap.length ≤ 1000000000) (hn : next.length ≤ 1000000000) (k : Nat) (hk1 : heap.length < k) (hk2 : next.length < k) :
  y_b.l0 (k + 1) l mem heap next cur out i = y_b.j2 k l mem heap next cur out i (rdb l mem heap next i) := by
 have b1 := tot_bd heap
 have b2 := tot_bd next
 have b3 := cost_bd (rd_T71 l i)
 rw [y_b.l0]
 unfold rdb
 by_cases h : i < (l.length : Int)
 ·rw [if_pos h, tot_impl heap (by omega) k hk1, tot_impl next (by omega) k hk2]
  simp only [Option.bind_some]
  rw [if_pos h0, cost_impl]
  simp only [Option.bind_some]
  rw [wrap_id (x := tot heap + tot next) (by omega) (by omega), wrap_id (by omega) (by omega), decide_eq_true h, Bool.true_and]
 ·rw [if_neg h, decide_eq_false h]
  rfl
theorem rsel_go (l : List S71) (hl : l.length ≤ 24) (mem : Int) (hmem : 4 ≤ mem) (d : Nat) : ∀ (k1 k2 : Nat) (out : List S39) (cur heap next : List S71) (i : Int), RInv l mem out cur heap next i →
  3 * (l.length - i.toNat) + 2 * next.length + heap.length < d → 4 * d + 100 < k1 → 4 * d + 100 < k2 →
  ∃ R, y_a.l0 k1 l mem out cur heap next i = some (R, true) ∧ y_b.l0 k2 l mem heap next cur out i = some (R, true) ∧ Post l mem R := by
 induction d with
 | zero => intro k1 k2 out cur heap next i _ hd; omega
 | succ d ih =>
  intro k1 k2 out cur heap next i inv hd hk1 hk2
  have len := inv_len inv
  have h0 := inv.hi0
  have h1 := inv.hi1
  have lo := fl_len out (fun r hr => (inv.hout r hr).1)
  obtain ⟨k1, rfl⟩ : ∃ m, k1 = m + 1 + 1 + 1 := ⟨k1 - 3, by omega⟩
  obtain ⟨k2, rfl⟩ : ∃ m, k2 = m + 1 + 1 + 1 := ⟨k2 - 3, by omega⟩
  have hT : (i < (l.length : Int)) ∨ 0 < heap.length + next.length → y_a.l0 (k1 + 1 + 1 + 1) l mem out cur heap next i = y_a.j3 (k1 + 1) l mem out cur heap next i (rdb l mem heap next i) := by
   intro h
   rw [y_a.l0]
   by_cases hi : i < (l.length : Int)
   ·rw [if_pos hi, j2_spec l mem out cur heap next i h0 (by omega) (by omega) (k1 + 1) (by omega) (by omega)]
   ·rw [if_neg hi, wrap_id (by omega) (by omega), decide_eq_true (show (heap.length : Int) + next.length > 0 by omega), j2_spec l mem out cur heap next i h0 (by omega) (by omega) (k1 + 1) (by omega) (by omega)]
  rw [l0_impl l mem out cur heap next i h0 (by omega) (by omega) (k2 + 1 + 1) (by omega) (by omega)]
  cases hr : rdb l mem heap next i with
  | true =>
   have hi : i < (l.length : Int) := by
    unfold rdb at hr
    rw [Bool.and_eq_true, decide_eq_true_eq] at hr
    exact hr.1
   rw [hT (Or.inl hi), hr, y_a.j3, if_pos rfl, y_b.j2, if_pos rfl, below_impl (rd_T71 l i) cur (by omega), wrap_succ h0 (n := l.length) hi (by omega)]
   simp only [Option.bind_some]
   have e : (⟨(rd_T71 l i).f0, (rd_T71 l i).f1, (rd_T71 l i).f2⟩ : S71) = rd_T71 l i := rfl
   have hN : next.length < 5864062014805 := by omega
   have hH : heap.length < 5864062014805 := by omega
   have hS : ∀ X Y : Option (List S39 × Bool), (if (cur.length : Int) > 0 then (if 0 ≤ (wrap64 ((cur.length : Int) - 1)) then (if (wrap64 ((cur.length : Int) - 1)) < (cur.length : Int) then ((y_f.f k1 ((rd_T71 l i).f0) ((rd_T71 l i).f1) ((rd_T71 l i).f2) ((rd_T71 cur (wrap64 ((cur.length : Int) - 1))).f0) ((rd_T71 cur (wrap64 ((cur.length : Int) - 1))).f1) ((rd_T71 cur (wrap64 ((cur.length : Int) - 1))).f2)).bind fun t398 => (if t398 < 0 then X else Y)) else (none)) else (none)) else Y)
     = if less (rd_T71 l i) cur = true then X else Y := by
    intro X Y
    unfold less
    by_cases hc : 0 < cur.length
    ·rw [if_pos (by omega), wrap_sub1 hc (by omega), if_pos (by omega), if_pos (by omega), cmp_spec _ _ k1 (by omega), decide_eq_true hc]
     simp only [Option.bind_some, Bool.true_and, decide_eq_true_eq]
    ·rw [if_neg (by omega), decide_eq_false hc, Bool.false_and, if_neg Bool.false_ne_true]
   simp only [e, h0, hi, hN, hH, if_true]
   rw [hS]
   cases hb : less (rd_T71 l i) cur with
   | true =>
    rw [if_pos rfl, if_pos rfl]
    exact ih k1 (k2 + 1) out cur heap _ (i + 1) (inv_next inv hi (less_yes _ _ hb)) (by rw [List.length_append, List.length_singleton]; omega) (by omega) (by omega)
   | false =>
    rw [if_neg Bool.false_ne_true, if_neg Bool.false_ne_true]
    exact ih k1 (k2 + 1) out cur _ next (i + 1) (inv_heap inv hi (less_no _ _ inv.hcur hb)) (by rw [List.length_append, List.length_singleton]; omega) (by omega) (by omega)
  | false =>
   have hf : i < (l.length : Int) → mem < tot heap + tot next + cost (rd_T71 l i) := by
    intro hi
    unfold rdb at hr
    rw [decide_eq_true hi, Bool.true_and, decide_eq_false_iff_not] at hr
    omega
   rw [y_b.j2, if_neg Bool.false_ne_true]
   by_cases hh : heap.length = 0
   ·have eh := List.eq_nil_of_length_eq_zero hh
    rw [if_pos (by omega)]
    by_cases hn : next.length = 0
    ·have en := List.eq_nil_of_length_eq_zero hn
     have hi : ¬ i < (l.length : Int) := by
      intro hi
      have := hf hi
      rw [eh, en] at this
      have := cost_bd (rd_T71 l i)
      simp only [tot] at *
      omega
     rw [eh, en] at inv
     have post := inv_end inv hi
     refine ⟨_, ?_, ?_, post⟩
     ·rw [y_a.l0, if_neg hi, wrap_id (by omega) (by omega), decide_eq_false (by omega), y_a.j2, if_neg Bool.false_ne_true]
      by_cases hc : 0 < cur.length
      ·rw [if_pos (by omega), if_pos (by omega), if_pos hc]
      ·rw [if_neg (by omega), if_neg hc]
     ·rw [y_b.j3, decide_eq_false (by omega), if_neg Bool.false_ne_true, if_neg (by omega)]
      have hm : ∀ x ∈ out, x.f0.length ≤ 1000000000 := fun x hx => by
       have := fl_mem out x hx
       omega
      by_cases hc : 0 < cur.length
      ·rw [if_pos (by omega), if_pos (by omega), if_pos hc, cloneRuns_eq _ (by rw [List.length_append, List.length_singleton]; omega) (fun x hx => by
        rcases List.mem_append.1 hx with h | h
        ·exact hm x h
        ·obtain rfl : x = ⟨cur⟩ := by simpa using h
         show cur.length ≤ _
         omega) k2 (by rw [List.length_append, List.length_singleton]; omega)]
       rfl
      ·rw [if_neg (by omega), if_neg hc, cloneRuns_eq _ (by omega) hm k2 (by omega)]
       rfl
    ·have en : next ≠ [] := fun e => hn (by rw [e]; rfl)
     rw [hT (Or.inr (by omega)), hr, y_a.j3, if_neg Bool.false_ne_true, if_pos (by omega), if_pos (by omega), y_b.j3, decide_eq_true (show (next.length : Int) > 0 by omega), if_pos rfl, if_pos (by omega)]
     rw [eh] at inv
     exact ih k1 k2 (out ++ [⟨cur⟩]) [] next [] i (inv_flush inv en) (by simp only [List.length_nil]; omega) (by omega) (by omega)
   ·rw [if_neg (by omega), hT (Or.inr (by omega)), hr, y_a.j3, if_neg Bool.false_ne_true, if_neg (by omega), y_b.j3, if_neg Bool.false_ne_true, if_pos (by omega)]
    obtain ⟨m, e1, e2, hm0, hm1, hm2, hmin⟩ := min_both heap (by omega) k1 k2 (by omega) (by omega)
    have hm : 0 ≤ m := by
     rcases Int.lt_or_le m 0 with h | h
     ·exact absurd (hm2 h) hh
     ·exact h
    rw [e1, e2]
    simp only [Option.bind_some]
    rw [if_pos hm, if_pos hm, if_pos (by omega), if_pos (by omega), if_pos (by omega), if_pos (by omega), drop1_spec heap m hm hm1 (by omega), taken_impl heap m hm hm1 (by omega)]
    simp only [Option.bind_some]
    have lp := (out1_perm heap m hm hm1).length_eq
    rw [List.length_cons] at lp
    exact ih k1 k2 out (cur ++ [rd_T71 heap m]) (out1 heap m) next i (inv_pop inv m hm hm1 hmin hf) (by omega) (by omega) (by omega)
theorem rinv_start (l : List S71) (mem : Int) : RInv l mem [] [] [] [] 0 :=
 ⟨by omega, by omega, List.Perm.refl _, fun r hr => absurd hr (by simp), List.Pairwise.nil, fun x hx => absurd hx (by simp), fun _ => rfl, fun h => absurd rfl h, fun _ => ⟨rfl, rfl, fun h => absurd rfl h⟩⟩
theorem rsel_both (l : List S71) (hl : l.length ≤ 1000000000) (mem : Int) (k1 k2 : Nat) (hk1 : l.length + 5000 < k1) (hk2 : l.length + 5000 < k2) :
  ∃ R ok, y_a.f k1 l mem = some (R, ok) ∧ y_b.f k2 l mem = some (R, ok) ∧ (ok = (vRows l && decide (8 ≤ mem ∧ mem ≤ 60))) ∧ (ok = false → R = []) ∧ (ok = true → Post l mem R) := by
 unfold y_a.f y_b.f y_ac.f
 rw [vRows_spec l (by omega) k1 (by omega), vRows_impl l (by omega) k2 (by omega)]
 simp only [Option.bind_some, l1In_in, within_in]
 obtain ⟨k1, rfl⟩ : ∃ m, k1 = m + 1 := ⟨k1 - 1, by omega⟩
 obtain ⟨k2, rfl⟩ : ∃ m, k2 = m + 1 := ⟨k2 - 1, by omega⟩
 cases hv : vRows l with
 | false =>
  rw [if_neg Bool.false_ne_true, if_neg Bool.false_ne_true, y_a.j0, y_b.j0, if_pos rfl, if_pos rfl]
  exact ⟨[], false, rfl, rfl, rfl, fun _ => rfl, fun h => absurd h Bool.false_ne_true⟩
 | true =>
  rw [if_pos rfl, if_pos rfl]
  by_cases hm : 8 ≤ mem ∧ mem ≤ 60
  ·have hl24 : l.length ≤ 24 := by
    unfold vRows at hv
    rw [Bool.and_eq_true, decide_eq_true_eq] at hv
    exact hv.2
   rw [decide_eq_true hm, y_a.j0, y_b.j0]
   simp only [Bool.not_true, Bool.false_eq_true, if_false]
   obtain ⟨R, e1, e2, p⟩ := rsel_go l hl24 mem (by omega) 100 k1 k2 [] [] [] [] 0 (rinv_start l mem) (by simp only [List.length_nil, Int.toNat_zero]; omega) (by omega) (by omega)
   exact ⟨R, true, e1, e2, rfl, fun h => absurd h.symm Bool.false_ne_true, fun _ => p⟩
  ·rw [decide_eq_false hm, y_a.j0, y_b.j0]
   simp only [Bool.not_false, if_true]
   exact ⟨[], false, rfl, rfl, rfl, fun _ => rfl, fun h => absurd h Bool.false_ne_true⟩
def mp : List S39 → List S39
 | [] => []
 | [x] => [⟨x.f0⟩]
 | x :: y :: l => ⟨mrg x.f0 y.f0⟩ :: mp l
theorem mp_len (n : Nat) : ∀ l : List S39, l.length ≤ n → (mp l).length = (l.length + 1) / 2 := by
 induction n with
 | zero =>
  intro l h
  have e : l = [] := List.eq_nil_of_length_eq_zero (by omega)
  rw [e]
  rfl
 | succ n ih =>
  intro l h
  match l, h with
  | [], _ => rfl
  | [x], _ =>
   rw [mp]
   simp
  | x :: y :: l, h =>
   rw [mp, List.length_cons, ih l (by simp only [List.length_cons] at h; omega)]
   simp only [List.length_cons]
   omega
theorem mp_perm (n : Nat) : ∀ l : List S39, l.length ≤ n → (fl (mp l)).Perm (fl l) := by
 induction n with
 | zero =>
  intro l h
  have e : l = [] := List.eq_nil_of_length_eq_zero (by omega)
  rw [e]
  exact List.Perm.refl _
 | succ n ih =>
  intro l h
  match l, h with
  | [], _ => exact List.Perm.refl _
  | [x], _ => exact List.Perm.refl _
  | x :: y :: l, h =>
   rw [mp, fl_cons, fl_cons, fl_cons, ← List.append_assoc]
   exact List.Perm.append (mrg_perm _ _) (ih l (by simp only [List.length_cons] at h; omega))
theorem mrg_sp (a b : List S71) (ha : SP a) (hb : SP b) : SP (mrg a b) := by
 have h := List.pairwise_merge (le := leR) (fun a b c h1 h2 => decide_eq_true (cmpR_trans a b c (of_decide_eq_true h1) (of_decide_eq_true h2)))
  (fun a b => by
   rcases cmpR_total a b with h | h
   ·simp [leR, h]
   ·simp [leR, h]) a b (ha.imp (fun h => decide_eq_true h)) (hb.imp (fun h => decide_eq_true h))
 exact h.imp (fun h => of_decide_eq_true h)
theorem mp_sp (n : Nat) : ∀ l : List S39, l.length ≤ n → (∀ x ∈ l, SP x.f0) → ∀ x ∈ mp l, SP x.f0 := by
 induction n with
 | zero =>
  intro l h hs x hx
  rw [List.eq_nil_of_length_eq_zero (show l.length = 0 by omega)] at hx
  cases hx
 | succ n ih =>
  intro l h hs z hz
  match l, h with
  | [], _ => cases hz
  | [x], _ =>
   obtain rfl : z = ⟨x.f0⟩ := by simpa [mp] using hz
   exact hs x List.mem_cons_self
  | x :: y :: l, h =>
   rw [mp] at hz
   rcases List.mem_cons.1 hz with rfl | hz
   ·exact mrg_sp _ _ (hs x List.mem_cons_self) (hs y (List.mem_cons_of_mem _ List.mem_cons_self))
   ·exact ih l (by simp only [List.length_cons] at h; omega) (fun u hu => hs u (List.mem_cons_of_mem _ (List.mem_cons_of_mem _ hu))) z hz
theorem drop_two (l : List S39) (i : Int) (h0 : 0 ≤ i) (h : i + 1 < (l.length : Int)) : l.drop i.toNat = rd_T39 l i :: rd_T39 l (i + 1) :: l.drop (i + 2).toNat := by
 have e1 : l.drop i.toNat = rd_T39 l i :: l.drop (i + 1).toNat := drop_getD l z39 i h0 (by omega)
 have e2 : l.drop (i + 1).toNat = rd_T39 l (i + 1) :: l.drop (i + 1 + 1).toNat := drop_getD l z39 (i + 1) (by omega) h
 rw [e1, e2, show i + 1 + 1 = i + 2 by omega]
theorem pass_spec_go (l : List S39) (T : Nat) (hl : l.length ≤ 1000000) (hT : T ≤ 1000000) (ho : ∀ x ∈ l, x.f0.length ≤ T) (d : Nat) : ∀ (k : Nat) (out : List S39) (i : Int), 0 ≤ i → (l.length : Int) - i ≤ d → out.length + d ≤ 2000000 → i ≤ 2000000 → d + 4 * T + 20 < k →
  y_l.l0 k l out i = some (out ++ mp (l.drop i.toNat)) := by
 induction d with
 | zero =>
  intro k out i h0 hd hq hi2 hk
  obtain ⟨k, rfl⟩ : ∃ m, k = m + 1 := ⟨k - 1, by omega⟩
  rw [y_l.l0, if_neg (by omega), drop_end l i (by omega), mp, List.append_nil]
 | succ d ih =>
  intro k out i h0 hd hq hi2 hk
  obtain ⟨k, rfl⟩ : ∃ m, k = m + 1 := ⟨k - 1, by omega⟩
  rw [y_l.l0]
  by_cases hi : i < (l.length : Int)
  ·have m1 : (rd_T39 l i).f0.length ≤ T := ho _ (getD_mem l z39 i h0 hi)
   rw [if_pos hi, wrap_id (x := i + 1) (by omega) (by omega), wrap_id (x := i + 2) (by omega) (by omega)]
   by_cases he : i + 1 = (l.length : Int)
   ·rw [if_pos he, Option.bind_some, if_pos h0, if_pos (by rw [List.length_nil]; omega), if_pos (by omega), ih k _ (i + 2) (by omega) (by omega) (by rw [List.length_append, List.length_singleton]; omega) (by omega) (by omega), drop_end l (i + 2) (by omega)]
    have e1 : l.drop i.toNat = rd_T39 l i :: l.drop (i + 1).toNat := drop_getD l z39 i h0 hi
    rw [e1, drop_end l (i + 1) (by omega), mp, mp, List.append_nil]
    rfl
   ·have m2 : (rd_T39 l (i + 1)).f0.length ≤ T := ho _ (getD_mem l z39 (i + 1) (by omega) (by omega))
    rw [if_neg he, if_pos h0, if_pos (by omega), if_pos (by omega), mrg_spec _ _ (by omega) k (by omega), Option.bind_some, if_pos (by omega), ih k _ (i + 2) (by omega) (by omega) (by rw [List.length_append, List.length_singleton]; omega) (by omega) (by omega), drop_two l i h0 (by omega), mp, List.append_assoc]
    rfl
  ·rw [if_neg hi, drop_end l i (by omega), mp, List.append_nil]
theorem pass_spec (l : List S39) (T : Nat) (hl : l.length ≤ 1000000) (hT : T ≤ 1000000) (ho : ∀ x ∈ l, x.f0.length ≤ T) (k : Nat) (hk : l.length + 4 * T + 20 < k) : y_l.f k l = some (mp l) := by
 unfold y_l.f
 exact pass_spec_go l T hl hT ho l.length k [] 0 (by omega) (by omega) (by rw [List.length_nil]; omega) (by omega) hk
theorem pass_impl_go (l : List S39) (T : Nat) (hl : l.length ≤ 1000000) (hT : T ≤ 1000000) (ho : ∀ x ∈ l, x.f0.length ≤ T) (d : Nat) : ∀ (k : Nat) (out : List S39) (i : Int), 0 ≤ i → (l.length : Int) - i ≤ d → out.length + d ≤ 2000000 → i ≤ 2000000 → d + 4 * T + 20 < k →
  y_n.l0 k l out i = some (out ++ mp (l.drop i.toNat)) := by
 induction d with
 | zero =>
  intro k out i h0 hd hq hi2 hk
  obtain ⟨k, rfl⟩ : ∃ m, k = m + 1 := ⟨k - 1, by omega⟩
  rw [y_n.l0, if_neg (by omega), drop_end l i (by omega), mp, List.append_nil]
 | succ d ih =>
  intro k out i h0 hd hq hi2 hk
  obtain ⟨k, rfl⟩ : ∃ m, k = m + 1 := ⟨k - 1, by omega⟩
  rw [y_n.l0]
  by_cases hi : i < (l.length : Int)
  ·have m1 : (rd_T39 l i).f0.length ≤ T := ho _ (getD_mem l z39 i h0 hi)
   rw [if_pos hi, wrap_id (x := i + 1) (by omega) (by omega), wrap_id (x := i + 2) (by omega) (by omega)]
   by_cases he : i + 1 = (l.length : Int)
   ·rw [if_pos he, if_pos h0, clone_eq _ (by omega), Option.bind_some, if_pos (by omega), ih k _ (i + 2) (by omega) (by omega) (by rw [List.length_append, List.length_singleton]; omega) (by omega) (by omega), drop_end l (i + 2) (by omega)]
    have e1 : l.drop i.toNat = rd_T39 l i :: l.drop (i + 1).toNat := drop_getD l z39 i h0 hi
    rw [e1, drop_end l (i + 1) (by omega), mp, mp, List.append_nil]
   ·have m2 : (rd_T39 l (i + 1)).f0.length ≤ T := ho _ (getD_mem l z39 (i + 1) (by omega) (by omega))
    rw [if_neg he, if_pos h0, if_pos (by omega), if_pos (by omega), mrg_impl _ _ (by omega) k (by omega), Option.bind_some, if_pos (by omega), ih k _ (i + 2) (by omega) (by omega) (by rw [List.length_append, List.length_singleton]; omega) (by omega) (by omega), drop_two l i h0 (by omega), mp, List.append_assoc]
    rfl
  ·rw [if_neg hi, drop_end l i (by omega), mp, List.append_nil]
theorem pass_impl (l : List S39) (T : Nat) (hl : l.length ≤ 1000000) (hT : T ≤ 1000000) (ho : ∀ x ∈ l, x.f0.length ≤ T) (k : Nat) (hk : l.length + 4 * T + 20 < k) : y_n.f k l = some (mp l) := by
 unfold y_n.f
 exact pass_impl_go l T hl hT ho l.length k [] 0 (by omega) (by omega) (by rw [List.length_nil]; omega) (by omega) hk
def pc (n : Nat) : Nat := if _h : n ≤ 1 then 0 else pc ((n + 1) / 2) + 1
termination_by n
decreasing_by omega
theorem pc_one (n : Nat) (h : n ≤ 1) : pc n = 0 := by
 rw [pc, dif_pos h]
theorem pc_more (n : Nat) (h : ¬ n ≤ 1) : pc n = pc ((n + 1) / 2) + 1 := by
 rw [pc, dif_neg h]
theorem pc_le (m : Nat) : ∀ n, n ≤ m → pc n ≤ n := by
 induction m with
 | zero =>
  intro n h
  rw [pc_one n (by omega)]
  omega
 | succ m ih =>
  intro n h
  by_cases h1 : n ≤ 1
  ·rw [pc_one n h1]
   omega
  ·rw [pc_more n h1]
   have := ih ((n + 1) / 2) (by omega)
   omega
theorem srt_nil : srt (fl []) = [] := List.Perm.eq_nil (srt_perm [])
theorem merge_go (T : Nat) (hT : T ≤ 1000000) (n : Nat) : ∀ (l : List S39) (k1 k2 : Nat) (p : Int), l.length ≤ n → n ≤ 1000000 → (fl l).length ≤ T → (∀ x ∈ l, SP x.f0) → 0 ≤ p → p + n ≤ 2000000 → (l.length = 0 → p = 0) → 2 * n + 4 * T + 30 < k1 → 2 * n + 4 * T + 30 < k2 →
  y_bb.l0 k1 l p = some (srt (fl l), p + (pc l.length : Nat), true) ∧ y_x.l0 k2 l p = some (srt (fl l), p + (pc l.length : Nat), true) := by
 induction n with
 | zero =>
  intro l k1 k2 p hn _ hf hs hp hp2 hz hk1 hk2
  obtain ⟨k1, rfl⟩ : ∃ m, k1 = m + 1 := ⟨k1 - 1, by omega⟩
  obtain ⟨k2, rfl⟩ : ∃ m, k2 = m + 1 := ⟨k2 - 1, by omega⟩
  have e := List.eq_nil_of_length_eq_zero (show l.length = 0 by omega)
  have hp0 := hz (by omega)
  subst e
  subst hp0
  have e2 : (([] : List S39).length : Int) = 0 := rfl
  rw [y_bb.l0, y_x.l0, e2, if_neg (show ¬ ((0 : Int) > 1) by omega), if_neg (show ¬ ((0 : Int) > 1) by omega), if_pos rfl, flat_impl [] (by rw [List.length_nil]; omega) (by simp [fl]) k2 (by rw [List.length_nil]; omega), pc_one _ (by rw [List.length_nil]; omega), srt_nil]
  exact ⟨rfl, rfl⟩
 | succ n ih =>
  intro l k1 k2 p hn hn2 hf hs hp hp2 hz hk1 hk2
  obtain ⟨k1, rfl⟩ : ∃ m, k1 = m + 1 := ⟨k1 - 1, by omega⟩
  obtain ⟨k2, rfl⟩ : ∃ m, k2 = m + 1 := ⟨k2 - 1, by omega⟩
  have ho : ∀ x ∈ l, x.f0.length ≤ T := fun x hx => Nat.le_trans (fl_mem l x hx) hf
  rw [y_bb.l0, y_x.l0]
  by_cases h1 : l.length ≤ 1
  ·rw [if_neg (show ¬ ((l.length : Int) > 1) by omega), if_neg (show ¬ ((l.length : Int) > 1) by omega), flat_impl l (by omega) (by omega) k2 (by omega), pc_one _ h1]
   match l, hs, hf, hz, h1 with
   | [], _, _, hz, _ =>
    have hp0 := hz rfl
    subst hp0
    rw [if_pos (show ((([] : List S39).length : Int)) = 0 from rfl), srt_nil]
    exact ⟨rfl, rfl⟩
   | [x], hs, hf, _, _ =>
    have e : srt (fl [x]) = x.f0 := by
     have e1 : fl [x] = x.f0 := by
      rw [fl_cons]
      exact List.append_nil _
     rw [e1]
     exact (srt_unique x.f0 x.f0 (hs x List.mem_cons_self) (List.Perm.refl _)).symm
    have e1 : fl [x] = x.f0 := by
     rw [fl_cons]
     exact List.append_nil _
    have hx := ho x
    rw [e, if_neg (by simp)]
    rw [e1] at hf
    simp only [Option.bind_some, List.length_singleton, List.length_nil]
    have er : rd_T39 [x] 0 = x := rfl
    rw [er, if_pos (by omega), if_pos (by omega), e1]
    constructor
    ·simp
    ·simp
  ·have hlen := mp_len l.length l (Nat.le_refl _)
   have hperm := mp_perm l.length l (Nat.le_refl _)
   rw [if_pos (show (l.length : Int) > 1 by omega), if_pos (show (l.length : Int) > 1 by omega), pass_spec l T (by omega) hT ho k1 (by omega), pass_impl l T (by omega) hT ho k2 (by omega)]
   simp only [Option.bind_some]
   rw [wrap_id (x := p + 1) (by omega) (by omega)]
   obtain ⟨g1, g2⟩ := ih (mp l) k1 k2 (p + 1) (by omega) (by omega) (by rw [hperm.length_eq]; exact hf) (mp_sp l.length l (Nat.le_refl _) hs) (by omega) (by omega) (fun h => by omega) (by omega) (by omega)
   rw [g1, g2, srt_congr _ _ hperm, hlen, pc_more l.length h1]
   have e : p + 1 + ((pc ((l.length + 1) / 2) : Nat) : Int) = p + ((pc ((l.length + 1) / 2) + 1 : Nat) : Int) := by omega
   rw [e]
   exact ⟨rfl, rfl⟩
theorem merge_both (l : List S39) (T : Nat) (hT : T ≤ 100000) (hl : l.length ≤ 100000) (hf : (fl l).length ≤ T) (k1 k2 : Nat) (hk1 : 1000000 < k1) (hk2 : 1000000 < k2) :
  y_bb.f k1 l = some (if l.all vRun = true then (srt (fl l), ((pc l.length : Nat) : Int), true) else ([], 0, false)) ∧ y_x.f k2 l = some (if l.all vRun = true then (srt (fl l), ((pc l.length : Nat) : Int), true) else ([], 0, false)) := by
 have ho : ∀ x ∈ l, x.f0.length ≤ T := fun x hx => Nat.le_trans (fl_mem l x hx) hf
 unfold y_bb.f y_x.f
 rw [vRuns_spec l T (by omega) (by omega) ho k1 (by omega), vRuns_impl l T (by omega) (by omega) ho k2 (by omega)]
 simp only [Option.bind_some]
 by_cases h : l.all vRun = true
 ·have hs : ∀ x ∈ l, SP x.f0 := by
   intro x hx
   have := (List.all_eq_true.1 h) x hx
   unfold vRun at this
   simp only [Bool.and_eq_true] at this
   exact (srtd_sp x.f0).1 this.2.1
  rw [if_pos h, if_pos h, if_pos h, cloneRuns_eq l (by omega) (fun x hx => by have := ho x hx; omega) k2 (by omega), Option.bind_some]
  obtain ⟨g1, g2⟩ := merge_go T (by omega) l.length l k1 k2 0 (Nat.le_refl _) (by omega) hf hs (by omega) (by omega) (fun _ => rfl) (by omega) (by omega)
  rw [Int.zero_add] at g1 g2
  exact ⟨g1, g2⟩
 ·rw [if_neg h, if_neg h, if_neg h]
  exact ⟨rfl, rfl⟩
theorem post_ok (l : List S71) (mem : Int) (R : List S39) (hv : vRows l = true) (p : Post l mem R) : R.all vRun = true := by
 rw [List.all_eq_true]
 intro r hr
 have hl : l.length ≤ 24 ∧ l.all vRow = true := by
  unfold vRows at hv
  rw [Bool.and_eq_true, decide_eq_true_eq] at hv
  exact ⟨hv.2, hv.1⟩
 have h1 := fl_mem R r hr
 have h2 := p.perm.length_eq
 obtain ⟨h3, h4⟩ := p.runs r hr
 have h5 : vRows r.f0 = true := by
  unfold vRows
  rw [Bool.and_eq_true, decide_eq_true_eq, List.all_eq_true]
  refine ⟨fun x hx => ?_, by omega⟩
  have : x ∈ fl R := by
   unfold fl
   exact List.mem_flatMap.2 ⟨r, hr, hx⟩
  exact (List.all_eq_true.1 hl.2) x (p.perm.subset this)
 have h6 : decide (r.f0.length = 0) = false := decide_eq_false (fun e => h3 (List.eq_nil_of_length_eq_zero e))
 have h7 : srtd r.f0 = true := (srtd_sp r.f0).2 h4
 unfold vRun
 rw [h6, h7, h5]
 rfl
theorem ext_both (l : List S71) (hl : l.length ≤ 1000000000) (mem : Int) (k1 k2 : Nat) (hk1 : l.length + 2000000 < k1) (hk2 : l.length + 2000000 < k2) :
  ∃ (r : List S71) (c : Int) (ok : Bool), y_qb.f k1 l mem = some (r, c, ok) ∧ y_tb.f k2 l mem = some (r, c, ok) ∧ r.length ≤ l.length ∧ (ok = true → r = srt l ∧ l.length ≤ 24 ∧ ∃ n : Nat, n ≤ l.length ∧ c = tot l * (((pc n : Nat) : Int) + 1)) := by
 obtain ⟨R, ok, e1, e2, hok, hno, hyes⟩ := rsel_both l hl mem k1 k2 (by omega) (by omega)
 unfold y_qb.f y_tb.f
 rw [e1, e2]
 simp only [Option.bind_some]
 cases ok with
 | false =>
  rw [if_neg Bool.false_ne_true, if_neg Bool.false_ne_true]
  exact ⟨[], 0, false, rfl, rfl, Nat.zero_le _, fun h => absurd h Bool.false_ne_true⟩
 | true =>
  have p := hyes rfl
  have h := hok.symm
  rw [Bool.and_eq_true, decide_eq_true_eq] at h
  have hl24 := h.1
  unfold vRows at hl24
  rw [Bool.and_eq_true, decide_eq_true_eq] at hl24
  have h1 := p.perm.length_eq
  have h2 := fl_len R (fun r hr => (p.runs r hr).1)
  obtain ⟨g1, g2⟩ := merge_both R 24 (by omega) (by omega) (by omega) k1 k2 (by omega) (by omega)
  rw [if_pos (post_ok l mem R h.1 p)] at g1 g2
  have hp := pc_le R.length R.length (Nat.le_refl _)
  have ht := tot_bd l
  rw [if_pos rfl, if_pos rfl, g1, g2]
  simp only [Option.bind_some]
  rw [if_true, tot_spec l (by omega) k1 (by omega), tot_impl l (by omega) k2 (by omega)]
  simp only [Option.bind_some]
  rw [wrap_id (x := ((pc R.length : Nat) : Int) + 1) (by omega) (by omega)]
  have m1 : tot l * (((pc R.length : Nat) : Int) + 1) ≤ 96 * 25 := Int.mul_le_mul (by omega) (by omega) (by omega) (by omega)
  have m0 : 0 ≤ tot l * (((pc R.length : Nat) : Int) + 1) := Int.mul_nonneg (by omega) (by omega)
  rw [wrap_id (by omega) (by omega), srt_congr _ _ p.perm]
  exact ⟨srt l, _, true, rfl, rfl, by rw [srt_len]; exact Nat.le_refl _, fun _ => ⟨rfl, hl24.2, R.length, by omega, rfl⟩⟩
theorem pc_pow (j : Nat) : ∀ n, n ≤ 2 ^ j → pc n ≤ j := by
 induction j with
 | zero =>
  intro n h
  rw [pc_one n (by simpa using h)]
  exact Nat.le_refl 0
 | succ j ih =>
  intro n h
  by_cases h1 : n ≤ 1
  ·rw [pc_one n h1]
   exact Nat.zero_le _
  ·rw [pc_more n h1]
   have := ih ((n + 1) / 2) (by rw [Nat.pow_succ] at h; omega)
   omega
theorem pow_bd (j : Nat) (h : j ≤ 40) : 2 ^ j ≤ 1099511627776 := by
 have : 2 ^ j ≤ 2 ^ 40 := Nat.pow_le_pow_right (by decide) h
 have e : (2 : Nat) ^ 40 = 1099511627776 := by decide
 omega
theorem passes_go (a : Int) (d : Nat) : ∀ (k j : Nat), j ≤ 40 → 40 - j = d → d < k → ∃ r : Nat, y_gb.l0 k a (j : Int) ((2 ^ j : Nat) : Int) = some (r : Int) ∧ r ≤ 40 ∧ (a ≤ ((2 ^ r : Nat) : Int) ∨ r = 40) := by
 induction d with
 | zero =>
  intro k j hj hd hk
  obtain ⟨k, rfl⟩ : ∃ m, k = m + 1 := ⟨k - 1, by omega⟩
  obtain rfl : j = 40 := by omega
  rw [y_gb.l0]
  split
  ·rw [if_neg (by omega)]
   exact ⟨40, rfl, by omega, Or.inr rfl⟩
  ·exact ⟨40, rfl, by omega, Or.inr rfl⟩
 | succ d ih =>
  intro k j hj hd hk
  obtain ⟨k, rfl⟩ : ∃ m, k = m + 1 := ⟨k - 1, by omega⟩
  have hb := pow_bd j hj
  obtain ⟨q, hq⟩ : ∃ q : Nat, 2 ^ j = q := ⟨_, rfl⟩
  have e2 : 2 ^ (j + 1) = q * 2 := by rw [Nat.pow_succ, hq]
  have ih := ih k (j + 1) (by omega) (by omega) (by omega)
  rw [hq] at hb ⊢
  rw [e2] at ih
  rw [y_gb.l0]
  by_cases h : (q : Int) < a
  ·rw [if_pos h, if_pos (by omega), wrap_id (x := (j : Int) + 1) (by omega) (by omega), wrap_id (by omega) (by omega), show (j : Int) + 1 = ((j + 1 : Nat) : Int) by omega, show (q : Int) * 2 = ((q * 2 : Nat) : Int) by omega]
   exact ih
  ·rw [if_neg h]
   exact ⟨j, rfl, hj, Or.inl (by rw [hq]; omega)⟩
theorem passes_enough (n : Nat) (hn : n ≤ 1000000000) (k : Nat) (hk : 50 < k) : ∃ r : Nat, y_gb.f k (n : Int) = some (r : Int) ∧ r ≤ 40 ∧ ∀ i, i ≤ n → pc i ≤ r := by
 unfold y_gb.f
 obtain ⟨r, h1, h2, h3⟩ := passes_go (n : Int) 40 k 0 (by omega) (by omega) (by omega)
 refine ⟨r, h1, h2, fun i hi => pc_pow r i ?_⟩
 rcases h3 with h | h
 ·omega
 ·subst h
  have e : (2 : Nat) ^ 40 = 1099511627776 := by decide
  omega
theorem byte_bd (x : Int) : 0 ≤ Go.bits .and .i64 x 255 ∧ Go.bits .and .i64 x 255 ≤ 255 := by
 have h : ∃ n : Nat, n ≤ 255 ∧ Go.bits .and .i64 x 255 = IntKind.i64.wrap (n : Int) := by
  refine ⟨(BitVec.ofInt 64 x &&& BitVec.ofInt 64 255).toNat, ?_, rfl⟩
  rw [BitVec.toNat_and]
  exact Nat.le_trans Nat.and_le_right (by decide)
 obtain ⟨n, hn, e⟩ := h
 have : IntKind.i64.wrap (n : Int) = wrap64 (n : Int) := i64_w _
 rw [e, this, wrap_id (by omega) (by omega)]
 omega
def ps (s : List Int) (p : Int) : Prop := 0 ≤ p ∧ p ≤ (s.length : Int)
theorem byte_ok (s : List Int) (hs : s.length ≤ 1048576) (p z : Int) (hp : ps s p) : ∃ b p' z', y_w.f s p z = some (b, p', z') ∧ 0 ≤ b ∧ b ≤ 255 ∧ ps s p' := by
 unfold y_w.f
 have h0 := hp.1
 have h1 := hp.2
 by_cases h : p < (s.length : Int)
 ·rw [if_pos h, if_pos h0, wrap_succ h0 (n := s.length) h (by omega)]
  exact ⟨_, _, _, rfl, (byte_bd _).1, (byte_bd _).2, by omega, by omega⟩
 ·rw [if_neg h]
  exact ⟨_, _, _, rfl, (byte_bd _).1, (byte_bd _).2, hp⟩
theorem tmod_bd (x a : Int) (hx : 0 ≤ x) (ha : 0 < a) : 0 ≤ Int.tmod x a ∧ Int.tmod x a < a := by
 rw [Int.tmod_eq_emod_of_nonneg hx]
 exact ⟨Int.emod_nonneg x (by omega), Int.emod_lt_of_pos x ha⟩
theorem below_ok (s : List Int) (hs : s.length ≤ 1048576) (p z a : Int) (hp : ps s p) : ∃ b p' z', y_q.f s p z a = some (b, p', z') ∧ 0 ≤ b ∧ (0 < a → b < a) ∧ ps s p' := by
 unfold y_q.f
 by_cases h : a ≤ 0
 ·rw [if_pos h]
  exact ⟨0, p, z, rfl, Int.le_refl 0, fun h2 => by omega, hp⟩
 ·rw [if_neg h]
  by_cases h2 : a ≤ 256
  ·rw [if_pos h2]
   obtain ⟨b, p', z', e, b0, b1, hp'⟩ := byte_ok s hs p z hp
   rw [e]
   simp only [Option.bind_some]
   rw [if_neg (by omega)]
   have := tmod_bd b a b0 (by omega)
   exact ⟨_, _, _, rfl, this.1, fun _ => this.2, hp'⟩
  ·rw [if_neg h2]
   obtain ⟨b, p1, z1, e1, b0, b1, hp1⟩ := byte_ok s hs p z hp
   rw [e1]
   simp only [Option.bind_some]
   obtain ⟨c, p2, z2, e2, c0, c1, hp2⟩ := byte_ok s hs p1 z1 hp1
   rw [e2]
   simp only [Option.bind_some]
   obtain ⟨d, p3, z3, e3, d0, d1, hp3⟩ := byte_ok s hs p2 z2 hp2
   rw [e3]
   simp only [Option.bind_some]
   obtain ⟨f, p4, z4, e4, f0, f1, hp4⟩ := byte_ok s hs p3 z3 hp3
   rw [e4]
   simp only [Option.bind_some]
   rw [if_neg (by omega), wrap_id (x := b * 16777216) (by omega) (by omega), wrap_id (x := c * 65536) (by omega) (by omega), wrap_id (x := d * 256) (by omega) (by omega), wrap_id (x := b * 16777216 + c * 65536) (by omega) (by omega), wrap_id (x := b * 16777216 + c * 65536 + d * 256) (by omega) (by omega), wrap_id (by omega) (by omega)]
   have := tmod_bd (b * 16777216 + c * 65536 + d * 256 + f) a (by omega) (by omega)
   exact ⟨_, _, _, rfl, this.1, fun _ => this.2, hp4⟩
theorem once_ok (s : List Int) (hs : s.length ≤ 1048576) (p z a : Int) (hp : ps s p) : ∃ b p' z', y_lb.f s p z a = some (b, p', z') ∧ ps s p' := by
 unfold y_lb.f
 obtain ⟨b, p', z', e, _, _, hp'⟩ := below_ok s hs p z a hp
 rw [e]
 exact ⟨_, _, _, rfl, hp'⟩
theorem pick_ok (s : List Int) (hs : s.length ≤ 1048576) (p z : Int) (hp : ps s p) (l : List Int) (hl : 0 < l.length) : ∃ b p' z', y_i.f s p z l = some (b, p', z') ∧ b ∈ l ∧ ps s p' := by
 unfold y_i.f
 obtain ⟨b, p', z', e, h0, h1, hp'⟩ := below_ok s hs p z l.length hp
 have h2 := h1 (by omega)
 rw [e]
 simp only [Option.bind_some]
 rw [if_pos h0, if_pos h2]
 refine ⟨_, _, _, rfl, ?_, hp'⟩
 have := getD_mem l 0 b h0 h2
 exact this
theorem new_go (s : List Int) (hs : s.length ≤ 1048576) (d : Nat) : ∀ (k : Nat) (z i : Int), 0 ≤ i → (4000 : Int) - i ≤ d → d < k → ∃ z', y_jb.l0 k s z i = some (s, 0, z') := by
 induction d with
 | zero =>
  intro k z i h0 hd hk
  obtain ⟨k, rfl⟩ : ∃ m, k = m + 1 := ⟨k - 1, by omega⟩
  rw [y_jb.l0]
  by_cases h : i < (s.length : Int)
  ·rw [if_pos h, if_neg (by omega)]
   exact ⟨_, rfl⟩
  ·rw [if_neg h]
   exact ⟨_, rfl⟩
 | succ d ih =>
  intro k z i h0 hd hk
  obtain ⟨k, rfl⟩ : ∃ m, k = m + 1 := ⟨k - 1, by omega⟩
  rw [y_jb.l0]
  by_cases h : i < (s.length : Int)
  ·rw [if_pos h]
   by_cases h2 : i < 4000
   ·rw [if_pos h2, if_pos h0, wrap_succ h0 (n := s.length) h (by omega)]
    exact ih k _ (i + 1) (by omega) (by omega) (by omega)
   ·rw [if_neg h2]
    exact ⟨_, rfl⟩
  ·rw [if_neg h]
   exact ⟨_, rfl⟩
theorem new_ok (s : List Int) (hs : s.length ≤ 1048576) (k : Nat) (hk : 4000 < k) : ∃ z, y_jb.f k s = some (s, 0, z) := by
 unfold y_jb.f
 exact new_go s hs 4000 k _ 0 (by omega) (by omega) hk
theorem ps0 (s : List Int) : ps s 0 := ⟨by omega, by omega⟩
theorem row_ok (s : List Int) (hs : s.length ≤ 1048576) (p z a : Int) (hp : ps s p) : ∃ x y u p' z', y_nb.f s p z a = some (x, y, u, p', z') ∧ ps s p' := by
 unfold y_nb.f
 obtain ⟨b, p1, z1, e1, _, _, hp1⟩ := below_ok s hs p z a hp
 rw [e1]
 simp only [Option.bind_some]
 obtain ⟨c, p2, z2, e2, _, _, hp2⟩ := below_ok s hs p1 z1 100 hp1
 rw [e2]
 simp only [Option.bind_some]
 obtain ⟨d, p3, z3, e3, _, hp3⟩ := pick_ok s hs p2 z2 hp2 [0, 0, 1, 2, 3] (by decide)
 rw [e3]
 exact ⟨_, _, _, _, _, rfl, hp3⟩
theorem rows_go (s : List Int) (hs : s.length ≤ 1048576) (a : Int) (d : Nat) : ∀ (k : Nat) (out : List S71) (p z : Int), ps s p → out.length + d ≤ 1000000 → d < k →
  ∃ l p' z', y_y.l0 k out a (d : Int) s p z = some (l, p', z') ∧ l.length = out.length + d ∧ ps s p' := by
 induction d with
 | zero =>
  intro k out p z hp ho hk
  obtain ⟨k, rfl⟩ : ∃ m, k = m + 1 := ⟨k - 1, by omega⟩
  rw [y_y.l0, if_neg (by omega)]
  exact ⟨out, p, z, rfl, rfl, hp⟩
 | succ d ih =>
  intro k out p z hp ho hk
  obtain ⟨k, rfl⟩ : ∃ m, k = m + 1 := ⟨k - 1, by omega⟩
  obtain ⟨x, y, u, p1, z1, e1, hp1⟩ := row_ok s hs p z a hp
  rw [y_y.l0, if_pos (by omega), e1]
  simp only [Option.bind_some]
  rw [if_pos (by omega), wrap_id (by omega) (by omega), show ((d + 1 : Nat) : Int) - 1 = (d : Int) by omega]
  obtain ⟨l, p2, z2, e2, hl, hp2⟩ := ih k (out ++ [⟨x, y, u⟩]) p1 z1 hp1 (by rw [List.length_append, List.length_singleton]; omega) (by omega)
  refine ⟨l, p2, z2, e2, ?_, hp2⟩
  rw [hl, List.length_append, List.length_singleton]
  omega
theorem rows_ok (s : List Int) (hs : s.length ≤ 1048576) (p z : Int) (n : Nat) (hn : n ≤ 100) (hp : ps s p) (k : Nat) (hk : 200 < k) : ∃ l p' z', y_y.f k s p z n = some (l, p', z') ∧ l.length ≤ n ∧ ps s p' := by
 unfold y_y.f
 obtain ⟨b, p1, z1, e1, _, hp1⟩ := pick_ok s hs p z hp [1, 2, 4, 10] (by decide)
 rw [e1]
 rw [Option.bind_some]
 dsimp only
 rw [wrap_id (x := (n : Int) + 1) (by omega) (by omega)]
 obtain ⟨c, p2, z2, e2, c0, c1, hp2⟩ := below_ok s hs p1 z1 ((n : Int) + 1) hp1
 rw [e2]
 rw [Option.bind_some]
 dsimp only
 have c2 := c1 (by omega)
 obtain ⟨l, p3, z3, e3, hl, hp3⟩ := rows_go s hs b c.toNat k [] p2 z2 hp2 (by simp only [List.length_nil]; omega) (by omega)
 have ec : ((c.toNat : Nat) : Int) = c := Int.toNat_of_nonneg c0
 rw [ec] at e3
 have hn' : l.length ≤ n := by
  rw [List.length_nil] at hl
  omega
 exact ⟨l, p3, z3, e3, hn', hp3⟩
theorem any_ok (s : List Int) (hs : s.length ≤ 1048576) (p z : Int) (hp : ps s p) : ∃ x y u p' z', y_vb.f s p z = some (x, y, u, p', z') ∧ ps s p' := by
 unfold y_vb.f
 obtain ⟨x, y, u, p1, z1, e1, hp1⟩ := row_ok s hs p z 10 hp
 rw [e1]
 simp only [Option.bind_some]
 obtain ⟨c, p2, z2, e2, _, _, hp2⟩ := below_ok s hs p1 z1 8 hp1
 rw [e2]
 simp only [Option.bind_some]
 repeat' split
 ·obtain ⟨d, p3, z3, e3, _, hp3⟩ := pick_ok s hs p2 z2 hp2 [(-1), 10] (by decide)
  rw [e3]
  exact ⟨_, _, _, _, _, rfl, hp3⟩
 ·obtain ⟨d, p3, z3, e3, _, hp3⟩ := pick_ok s hs p2 z2 hp2 [(-1), 100, 99] (by decide)
  rw [e3]
  exact ⟨_, _, _, _, _, rfl, hp3⟩
 ·obtain ⟨d, p3, z3, e3, _, hp3⟩ := pick_ok s hs p2 z2 hp2 [(-1), 4] (by decide)
  rw [e3]
  exact ⟨_, _, _, _, _, rfl, hp3⟩
 ·exact ⟨_, _, _, _, _, rfl, hp2⟩
theorem bent_ok (s : List Int) (hs : s.length ≤ 1048576) (p z : Int) (n : Nat) (hn : n ≤ 100) (hp : ps s p) (k : Nat) (hk : 200 < k) : ∃ l p' z', y_zb.f k s p z n = some (l, p', z') ∧ l.length ≤ n + 1 ∧ ps s p' := by
 unfold y_zb.f
 obtain ⟨l, p1, z1, e1, hl, hp1⟩ := rows_ok s hs p z n hn hp k hk
 rw [e1]
 simp only [Option.bind_some]
 obtain ⟨b, p2, z2, e2, hp2⟩ := once_ok s hs p1 z1 14 hp1
 rw [e2]
 simp only [Option.bind_some]
 cases b
 ·rw [if_neg Bool.false_ne_true]
  exact ⟨_, _, _, rfl, by omega, hp2⟩
 ·rw [if_pos rfl]
  obtain ⟨x, y, u, p3, z3, e3, hp3⟩ := any_ok s hs p2 z2 hp2
  rw [e3]
  simp only [Option.bind_some]
  rw [if_pos (by omega)]
  exact ⟨_, _, _, rfl, by rw [List.length_append, List.length_singleton]; omega, hp3⟩
theorem grant_ok (s : List Int) (hs : s.length ≤ 1048576) (p z : Int) (hp : ps s p) : ∃ g p' z', y_yb.f s p z = some (g, p', z') ∧ 7 ≤ g ∧ g ≤ 61 ∧ ps s p' := by
 unfold y_yb.f
 obtain ⟨b, p1, z1, e1, hp1⟩ := once_ok s hs p z 14 hp
 rw [e1]
 simp only [Option.bind_some]
 cases b
 ·rw [if_neg Bool.false_ne_true]
  obtain ⟨c, p2, z2, e2, hc, hp2⟩ := pick_ok s hs p1 z1 hp1 [8, 8, 9, 12, 20, 60] (by decide)
  rw [e2]
  have hc' : 7 ≤ c ∧ c ≤ 61 := by
   simp only [List.mem_cons, List.not_mem_nil, or_false] at hc
   omega
  exact ⟨c, p2, z2, rfl, hc'.1, hc'.2, hp2⟩
 ·rw [if_pos rfl]
  obtain ⟨c, p2, z2, e2, hc, hp2⟩ := pick_ok s hs p1 z1 hp1 [7, 61] (by decide)
  rw [e2]
  have hc' : 7 ≤ c ∧ c ≤ 61 := by
   simp only [List.mem_cons, List.not_mem_nil, or_false] at hc
   omega
  exact ⟨c, p2, z2, rfl, hc'.1, hc'.2, hp2⟩
theorem drawBuild_ok (s : List Int) (hs : s.length ≤ 1048576) (k : Nat) (hk : 4000 < k) : ∃ l g, y_cc.f k s = some (l, g) ∧ l.length ≤ 17 ∧ 7 ≤ g ∧ g ≤ 61 := by
 unfold y_cc.f
 obtain ⟨z, e0⟩ := new_ok s hs k hk
 rw [e0, Option.bind_some]
 dsimp only
 obtain ⟨l, p1, z1, e1, hl, hp1⟩ := bent_ok s hs 0 z 16 (by omega) (ps0 s) k (by omega)
 have e1' : y_zb.f k s 0 z 16 = some (l, p1, z1) := e1
 rw [e1', Option.bind_some]
 dsimp only
 obtain ⟨g, p2, z2, e2, g0, g1, _⟩ := grant_ok s hs p1 z1 hp1
 rw [e2, Option.bind_some]
 exact ⟨l, g, rfl, by omega, g0, g1⟩
theorem FnExternalSort : y_j.Pure := by
 intro s _ _ _
 by_cases hb : s.length ≤ 1048576
 ·obtain ⟨m, hm⟩ : ∃ m : Nat, m = 10000000 := ⟨_, rfl⟩
  obtain ⟨l, mem, e0, hl, hm0, hm1⟩ := drawBuild_ok s hb (m + 1) (by omega)
  have e0' : y_xb.f (m + 1) s = some (l, mem) := by
   unfold y_xb.f
   rw [e0]
   rfl
  obtain ⟨r, c, ok, e1, e2, hr, hok⟩ := ext_both l (by omega) mem (m + 1) (m + 1) (by omega) (by omega)
  have a1 := sameRows_self r (by omega) (m + 1) (by omega)
  refine ⟨m + 1, ?_⟩
  unfold y_j.f
  rw [show y_bc.f s = some (decide ((s.length : Int) > 1048576)) from rfl, decide_eq_false (show ¬ ((s.length : Int) > 1048576) by omega)]
  simp only [Option.bind_some, Bool.false_eq_true, if_false, e0', e1, e2, a1, bne_self_eq_false, if_true, Bool.not_true]
  rw [y_j.j0, if_neg Bool.false_ne_true]
  cases ok with
  | false =>
   rw [if_neg Bool.false_ne_true]
  | true =>
   obtain ⟨h1, h2, n, hn, hc⟩ := hok rfl
   have q : l.length * (l.length + 10) ≤ 17 * 27 := Nat.mul_le_mul hl (by omega)
   have a2 := sameRows_self (srt l) (by rw [srt_len]; omega) m (by rw [srt_len]; omega)
   have ht := tot_bd l
   obtain ⟨p, hp1, hp2, hp3⟩ := passes_enough l.length (by omega) m (by omega)
   have hpn := hp3 n hn
   have g1 : tot l * (((pc n : Nat) : Int) + 1) ≤ tot l * ((p : Int) + 2) := Int.mul_le_mul_of_nonneg_left (by omega) ht.1
   have g0 : tot l * 1 ≤ tot l * (((pc n : Nat) : Int) + 1) := Int.mul_le_mul_of_nonneg_left (by omega) ht.1
   have g2 : tot l * ((p : Int) + 2) ≤ 96 * 42 := Int.mul_le_mul (by omega) (by omega) (by omega) (by omega)
   rw [if_pos rfl, sort_spec l (by omega) m (by omega), Option.bind_some, h1, a2, Option.bind_some, if_pos rfl, tot_spec l (by omega) m (by omega), Option.bind_some, if_pos (by omega)]
   unfold y_pb.f
   rw [tot_impl l (by omega) m (by omega), Option.bind_some, hp1, Option.bind_some, Option.bind_some, wrap_id (x := (p : Int) + 2) (by omega) (by omega), wrap_id (by omega) (by omega), decide_eq_true (by omega)]
 ·refine ⟨0, ?_⟩
  unfold y_j.f
  rw [show y_bc.f s = some (decide ((s.length : Int) > 1048576)) from rfl, decide_eq_true (show ((s.length : Int) > 1048576) by omega)]
  rfl
end Go.Proofs.Ytkcicbigpbdjpaa.Pure
end
section
namespace Go.Proofs.YtkcicbigpbdjpaaW.PrintWords
open Go.ChangeShapes Go.WideShapes
theorem sized_ints {H : Type} {enc : TypeId × Value → H} {P : Program} {W : World} {base : Nat} {spare : Nat → Bool} {held : Bool} {t e : TypeId} {k : IntKind} {a : Option Addr} {len cap : Nat} {d : DataW H} {ps : List MemPlace} {ts : List TypeId} {ds : List (DataW H)} {j : Nat}
  (hsz : (DataW.weightsEach P ts ds).all (· ≤ reachBytes) = true) (ht : ts[j]? = some t) (hd : ds[j]? = some d) (hu : P.underlying t = some (.slice e)) (he : P.underlying e = some (.int k)) (hc : P.cellsOf e = 1) {B : Nat} (hB : P.bytesOf e = B)
  (h : DataW.Trod enc P W base spare held t (.slice a len cap) d ps) : len * B ≤ 140737488351232 := by
 obtain ⟨fuel, hf⟩ := h
 rcases open_ints hu he hc hf with ⟨hcs, _⟩ | ⟨x, l, c, zs, hcs, _, hl, _, hz, hx, _, _⟩
 ·simp [Value.cells] at hcs
  obtain ⟨rfl, rfl, rfl⟩ := hcs
  simp
 ·simp [Value.cells] at hcs
  obtain ⟨rfl, rfl, rfl⟩ := hcs
  obtain ⟨hx, _⟩ := Prod.mk.inj hx
  subst hx
  have z := sized_slice hsz ht hd hu
  rw [hB] at z
  have hl2 : len ≤ zs.length := by
   rw [hz]
   split
   ·exact hl
   ·exact Nat.le_refl _
  have h1 : (lits (H := H) k (zs.take len)).length + (lits (H := H) k (zs.drop len)).length = zs.length := by
   simp [lits]
   omega
  rw [h1] at z
  exact Nat.le_trans (Nat.mul_le_mul_right _ hl2) z
end Go.Proofs.YtkcicbigpbdjpaaW.PrintWords
end
