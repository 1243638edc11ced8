/-
  RemoveClient: what it computes.
-/
import Derived.Test.YtjlhfemfmkdlhaaBrkS
import Derived.Test.YtjlhfemfmkdlhaaAb2
namespace Go.Proofs.Ytjlhfemfmkdlhaa.Ab
open Go.RowKit
set_option linter.unusedVariables false
set_option linter.unusedSimpArgs false
set_option maxRecDepth 20000
set_option maxHeartbeats 1000000

/-- The first client of the greatest priority. -/
def bestN (xs : List Cl) : Nat → Nat
  | 0 => 0
  | i + 1 => match xs[i]?, xs[bestN xs i]? with
    | some c, some d => if d.c < c.c then i else bestN xs i
    | _, _ => bestN xs i
def bestC (xs : List Cl) : Nat := bestN xs xs.length
theorem bestN_lt {xs : List Cl} (h : 0 < xs.length) : ∀ i, i ≤ xs.length → bestN xs i < xs.length
  | 0, _ => h
  | i + 1, hi => by
    have ih := bestN_lt h i (by omega)
    unfold bestN
    split
    · split <;> omega
    · exact ih
theorem bestN_yes {xs : List Cl} {i : Nat} {c d : Cl} (hc : xs[i]? = some c) (hd : xs[bestN xs i]? = some d) (h : d.c < c.c) : bestN xs (i + 1) = i := by rw [bestN, hc, hd]; exact if_pos h
theorem bestN_no {xs : List Cl} {i : Nat} {c d : Cl} (hc : xs[i]? = some c) (hd : xs[bestN xs i]? = some d) (h : ¬ d.c < c.c) : bestN xs (i + 1) = bestN xs i := by rw [bestN, hc, hd]; exact if_neg h
theorem bestN_one {xs : List Cl} : bestN xs 1 = 0 := by
  unfold bestN
  simp only [bestN]
  split
  · split <;> rfl
  · rfl
theorem bestC_lt {xs : List Cl} (h : 0 < xs.length) : bestC xs < xs.length := bestN_lt h _ (Nat.le_refl _)

def dropC (xs : List Cl) (k : Nat) : List Cl := xs.take k ++ xs.drop (k + 1)
theorem dropC_len {xs : List Cl} {k : Nat} (h : k < xs.length) : (dropC xs k).length = xs.length - 1 := by
  simp only [dropC, List.length_append, List.length_take, List.length_drop]
  omega
theorem dropC_le {xs : List Cl} {k : Nat} : (dropC xs k).length ≤ xs.length := by
  simp only [dropC, List.length_append, List.length_take, List.length_drop]
  omega

/-- Where a client belongs. -/
def posC (xs : List Cl) (c : Cl) : Nat := (xs.takeWhile fun x => decide (x.a < c.a)).length
theorem posC_le (xs : List Cl) (c : Cl) : posC xs c ≤ xs.length := by
  unfold posC
  have := (List.takeWhile_sublist (fun x : Cl => decide (x.a < c.a)) (l := xs)).length_le
  exact this
theorem tw_spec {p : Cl → Bool} : ∀ (xs : List Cl) (k : Nat), (∀ i x, i < k → xs[i]? = some x → p x = true) → k ≤ xs.length → (∀ x, xs[k]? = some x → p x = false) → (xs.takeWhile p).length = k
  | [], k, _, h, _ => by simp at h; subst h; rfl
  | x :: xs, 0, _, _, h => by
    have := h x rfl
    simp [List.takeWhile_cons, this]
  | x :: xs, k + 1, h1, h2, h3 => by
    have := h1 0 x (by omega) rfl
    rw [List.takeWhile_cons, this]
    simp only [if_true, List.length_cons]
    rw [tw_spec xs k (fun i y hi hy => h1 (i + 1) y (by omega) (by simpa using hy)) (by simpa using h2) (fun y hy => h3 y (by simpa using hy))]
theorem posC_spec {xs : List Cl} {c : Cl} {k : Nat} (h1 : ∀ i x, i < k → xs[i]? = some x → x.a < c.a) (h2 : k ≤ xs.length) (h3 : ∀ x, xs[k]? = some x → ¬ x.a < c.a) : posC xs c = k :=
  tw_spec xs k (fun i x hi hx => decide_eq_true (h1 i x hi hx)) h2 (fun x hx => decide_eq_false (h3 x hx))
theorem tw_lt {p : Cl → Bool} : ∀ (xs : List Cl) (i : Nat) (x : Cl), i < (xs.takeWhile p).length → xs[i]? = some x → p x = true
  | [], i, x, h, _ => by simp at h
  | y :: xs, i, x, h, hx => by
    rw [List.takeWhile_cons] at h
    cases hy : p y with
    | false => rw [hy] at h; simp at h
    | true =>
      rw [hy] at h
      simp only [if_true, List.length_cons] at h
      cases i with
      | zero => simp at hx; subst hx; exact hy
      | succ i => exact tw_lt xs i x (by omega) (by simpa using hx)
theorem tw_at {p : Cl → Bool} : ∀ (xs : List Cl) (x : Cl), xs[(xs.takeWhile p).length]? = some x → p x = false
  | [], x, h => by simp at h
  | y :: xs, x, h => by
    rw [List.takeWhile_cons] at h
    cases hy : p y with
    | false => rw [hy] at h; simp at h; subst h; exact hy
    | true =>
      rw [hy] at h
      simp only [if_true, List.length_cons, List.getElem?_cons_succ] at h
      exact tw_at xs x h
theorem posC_lt {xs : List Cl} {c : Cl} {i : Nat} {x : Cl} (h : i < posC xs c) (hx : xs[i]? = some x) : x.a < c.a := of_decide_eq_true (tw_lt xs i x h hx)
theorem posC_at {xs : List Cl} {c x : Cl} (hx : xs[posC xs c]? = some x) : ¬ x.a < c.a := of_decide_eq_false (tw_at xs x hx)
def putC (xs : List Cl) (c : Cl) : List Cl := xs.take (posC xs c) ++ c :: xs.drop (posC xs c)
theorem putC_len (xs : List Cl) (c : Cl) : (putC xs c).length = xs.length + 1 := by
  have := posC_le xs c
  simp only [putC, List.length_append, List.length_take, List.length_cons, List.length_drop]
  omega

def rmV (b : Br) (id : Int) : Br × Bool :=
  cond (validB b) (cond (decide (0 ≤ idxC b.wait id)) (⟨b.pool, b.next, b.act, dropC b.wait (idxC b.wait id).toNat⟩, true)
    (cond (decide (0 ≤ idxC b.act id)) (match b.wait[bestC b.wait]? with
      | none => (⟨b.pool, b.next, dropC b.act (idxC b.act id).toNat, b.wait⟩, true)
      | some c => (⟨b.pool, b.next, putC (dropC b.act (idxC b.act id).toNat) c, dropC b.wait (bestC b.wait)⟩, true)) (b, false))) (b, false)
theorem rm_no {b : Br} {id : Int} (h : validB b = false) : rmV b id = (b, false) := by rw [rmV, h]; rfl
theorem rm_wait {b : Br} {id : Int} (h : validB b = true) (h1 : decide (0 ≤ idxC b.wait id) = true) : rmV b id = (⟨b.pool, b.next, b.act, dropC b.wait (idxC b.wait id).toNat⟩, true) := by rw [rmV, h, h1]; rfl
theorem rm_none {b : Br} {id : Int} (h1 : decide (0 ≤ idxC b.wait id) = false) (h2 : decide (0 ≤ idxC b.act id) = false) : rmV b id = (b, false) := by rw [rmV, h1, h2]; cases validB b <;> rfl
theorem rm_act0 {b : Br} {id : Int} (h : validB b = true) (h1 : decide (0 ≤ idxC b.wait id) = false) (h2 : decide (0 ≤ idxC b.act id) = true) (h3 : b.wait.length = 0) : rmV b id = (⟨b.pool, b.next, dropC b.act (idxC b.act id).toNat, b.wait⟩, true) := by
  have : b.wait[bestC b.wait]? = none := List.getElem?_eq_none (by omega)
  rw [rmV, h, h1, h2, this]; rfl
theorem rm_act1 {b : Br} {id : Int} {c : Cl} (h : validB b = true) (h1 : decide (0 ≤ idxC b.wait id) = false) (h2 : decide (0 ≤ idxC b.act id) = true) (h3 : b.wait[bestC b.wait]? = some c) :
    rmV b id = (⟨b.pool, b.next, putC (dropC b.act (idxC b.act id).toNat) c, dropC b.wait (bestC b.wait)⟩, true) := by
  rw [rmV, h, h1, h2, h3]; rfl
theorem rmV_len (b : Br) (id : Int) : (rmV b id).1.act.length ≤ b.act.length + 1 ∧ (rmV b id).1.wait.length ≤ b.wait.length + 1 := by
  unfold rmV
  have := @dropC_le b.act (idxC b.act id).toNat
  have := @dropC_le b.wait (idxC b.wait id).toNat
  have := @dropC_le b.wait (bestC b.wait)
  cases validB b
  · simp
  · cases decide (0 ≤ idxC b.wait id)
    · cases decide (0 ≤ idxC b.act id)
      · simp
      · simp only [cond_true, cond_false]
        split
        · exact ⟨by simp only; omega, by simp only; omega⟩
        · exact ⟨by simp only [putC_len]; omega, by simp only; omega⟩
    · exact ⟨by simp only [cond_true]; omega, by simp only [cond_true]; omega⟩
end Go.Proofs.Ytjlhfemfmkdlhaa.Ab
