/- Texts RmA, RmM, GrM, RmB, RmC, RmD in one. -/
import Derived.Test.YtjlhfemfmkdlhaaMrgC
import Derived.Test.YtjlhfemfmkdlhaaAb2
import Derived.Test.YtjlhfemfmkdlhaaMrgB
set_option linter.unusedVariables false
set_option linter.unusedSimpArgs false
set_option maxRecDepth 20000
set_option maxHeartbeats 4000000
/- RmA -/
namespace Go.Proofs.Ytjlhfemfmkdlhaa.Ab
open Go.RowKit

/-- The first client of the greatest priority. -/
def bestN (xs : List Cl) : Nat → Nat
  | 0 => 0
  | i + 1 => match xs[i]?, xs[bestN xs i]? with
    | some c, some d => if d.c < c.c then i else bestN xs i
    | _, _ => bestN xs i
def bestC (xs : List Cl) : Nat := bestN xs xs.length
theorem bestN_lt {xs : List Cl} (h : 0 < xs.length) : ∀ i, i ≤ xs.length → bestN xs i < xs.length
  | 0, _ => h
  | i + 1, hi => by
    have ih := bestN_lt h i (by omega)
    unfold bestN
    split
    · split <;> omega
    · exact ih
theorem bestN_yes {xs : List Cl} {i : Nat} {c d : Cl} (hc : xs[i]? = some c) (hd : xs[bestN xs i]? = some d) (h : d.c < c.c) : bestN xs (i + 1) = i := by rw [bestN, hc, hd]; exact if_pos h
theorem bestN_no {xs : List Cl} {i : Nat} {c d : Cl} (hc : xs[i]? = some c) (hd : xs[bestN xs i]? = some d) (h : ¬ d.c < c.c) : bestN xs (i + 1) = bestN xs i := by rw [bestN, hc, hd]; exact if_neg h
theorem bestN_one {xs : List Cl} : bestN xs 1 = 0 := by
  unfold bestN
  simp only [bestN]
  split
  · split <;> rfl
  · rfl
theorem bestC_lt {xs : List Cl} (h : 0 < xs.length) : bestC xs < xs.length := bestN_lt h _ (Nat.le_refl _)

def dropC (xs : List Cl) (k : Nat) : List Cl := xs.take k ++ xs.drop (k + 1)
theorem dropC_len {xs : List Cl} {k : Nat} (h : k < xs.length) : (dropC xs k).length = xs.length - 1 := by
  simp only [dropC, List.length_append, List.length_take, List.length_drop]
  omega
theorem dropC_le {xs : List Cl} {k : Nat} : (dropC xs k).length ≤ xs.length := by
  simp only [dropC, List.length_append, List.length_take, List.length_drop]
  omega

/-- Where a client belongs. -/
def posC (xs : List Cl) (c : Cl) : Nat := (xs.takeWhile fun x => decide (x.a < c.a)).length
theorem posC_le (xs : List Cl) (c : Cl) : posC xs c ≤ xs.length := by
  unfold posC
  have := (List.takeWhile_sublist (fun x : Cl => decide (x.a < c.a)) (l := xs)).length_le
  exact this
theorem tw_spec {p : Cl → Bool} : ∀ (xs : List Cl) (k : Nat), (∀ i x, i < k → xs[i]? = some x → p x = true) → k ≤ xs.length → (∀ x, xs[k]? = some x → p x = false) → (xs.takeWhile p).length = k
  | [], k, _, h, _ => by simp at h; subst h; rfl
  | x :: xs, 0, _, _, h => by
    have := h x rfl
    simp [List.takeWhile_cons, this]
  | x :: xs, k + 1, h1, h2, h3 => by
    have := h1 0 x (by omega) rfl
    rw [List.takeWhile_cons, this]
    simp only [if_true, List.length_cons]
    rw [tw_spec xs k (fun i y hi hy => h1 (i + 1) y (by omega) (by simpa using hy)) (by simpa using h2) (fun y hy => h3 y (by simpa using hy))]
theorem posC_spec {xs : List Cl} {c : Cl} {k : Nat} (h1 : ∀ i x, i < k → xs[i]? = some x → x.a < c.a) (h2 : k ≤ xs.length) (h3 : ∀ x, xs[k]? = some x → ¬ x.a < c.a) : posC xs c = k :=
  tw_spec xs k (fun i x hi hx => decide_eq_true (h1 i x hi hx)) h2 (fun x hx => decide_eq_false (h3 x hx))
theorem tw_lt {p : Cl → Bool} : ∀ (xs : List Cl) (i : Nat) (x : Cl), i < (xs.takeWhile p).length → xs[i]? = some x → p x = true
  | [], i, x, h, _ => by simp at h
  | y :: xs, i, x, h, hx => by
    rw [List.takeWhile_cons] at h
    cases hy : p y with
    | false => rw [hy] at h; simp at h
    | true =>
      rw [hy] at h
      simp only [if_true, List.length_cons] at h
      cases i with
      | zero => simp at hx; subst hx; exact hy
      | succ i => exact tw_lt xs i x (by omega) (by simpa using hx)
theorem tw_at {p : Cl → Bool} : ∀ (xs : List Cl) (x : Cl), xs[(xs.takeWhile p).length]? = some x → p x = false
  | [], x, h => by simp at h
  | y :: xs, x, h => by
    rw [List.takeWhile_cons] at h
    cases hy : p y with
    | false => rw [hy] at h; simp at h; subst h; exact hy
    | true =>
      rw [hy] at h
      simp only [if_true, List.length_cons, List.getElem?_cons_succ] at h
      exact tw_at xs x h
theorem posC_lt {xs : List Cl} {c : Cl} {i : Nat} {x : Cl} (h : i < posC xs c) (hx : xs[i]? = some x) : x.a < c.a := of_decide_eq_true (tw_lt xs i x h hx)
theorem posC_at {xs : List Cl} {c x : Cl} (hx : xs[posC xs c]? = some x) : ¬ x.a < c.a := of_decide_eq_false (tw_at xs x hx)
def putC (xs : List Cl) (c : Cl) : List Cl := xs.take (posC xs c) ++ c :: xs.drop (posC xs c)
theorem putC_len (xs : List Cl) (c : Cl) : (putC xs c).length = xs.length + 1 := by
  have := posC_le xs c
  simp only [putC, List.length_append, List.length_take, List.length_cons, List.length_drop]
  omega

def rmV (b : Br) (id : Int) : Br × Bool :=
  cond (validB b) (cond (decide (0 ≤ idxC b.wait id)) (⟨b.pool, b.next, b.act, dropC b.wait (idxC b.wait id).toNat⟩, true)
    (cond (decide (0 ≤ idxC b.act id)) (match b.wait[bestC b.wait]? with
      | none => (⟨b.pool, b.next, dropC b.act (idxC b.act id).toNat, b.wait⟩, true)
      | some c => (⟨b.pool, b.next, putC (dropC b.act (idxC b.act id).toNat) c, dropC b.wait (bestC b.wait)⟩, true)) (b, false))) (b, false)
theorem rm_no {b : Br} {id : Int} (h : validB b = false) : rmV b id = (b, false) := by rw [rmV, h]; rfl
theorem rm_wait {b : Br} {id : Int} (h : validB b = true) (h1 : decide (0 ≤ idxC b.wait id) = true) : rmV b id = (⟨b.pool, b.next, b.act, dropC b.wait (idxC b.wait id).toNat⟩, true) := by rw [rmV, h, h1]; rfl
theorem rm_none {b : Br} {id : Int} (h1 : decide (0 ≤ idxC b.wait id) = false) (h2 : decide (0 ≤ idxC b.act id) = false) : rmV b id = (b, false) := by rw [rmV, h1, h2]; cases validB b <;> rfl
theorem rm_act0 {b : Br} {id : Int} (h : validB b = true) (h1 : decide (0 ≤ idxC b.wait id) = false) (h2 : decide (0 ≤ idxC b.act id) = true) (h3 : b.wait.length = 0) : rmV b id = (⟨b.pool, b.next, dropC b.act (idxC b.act id).toNat, b.wait⟩, true) := by
  have : b.wait[bestC b.wait]? = none := List.getElem?_eq_none (by omega)
  rw [rmV, h, h1, h2, this]; rfl
theorem rm_act1 {b : Br} {id : Int} {c : Cl} (h : validB b = true) (h1 : decide (0 ≤ idxC b.wait id) = false) (h2 : decide (0 ≤ idxC b.act id) = true) (h3 : b.wait[bestC b.wait]? = some c) :
    rmV b id = (⟨b.pool, b.next, putC (dropC b.act (idxC b.act id).toNat) c, dropC b.wait (bestC b.wait)⟩, true) := by
  rw [rmV, h, h1, h2, h3]; rfl
theorem rmV_len (b : Br) (id : Int) : (rmV b id).1.act.length ≤ b.act.length + 1 ∧ (rmV b id).1.wait.length ≤ b.wait.length + 1 := by
  unfold rmV
  have := @dropC_le b.act (idxC b.act id).toNat
  have := @dropC_le b.wait (idxC b.wait id).toNat
  have := @dropC_le b.wait (bestC b.wait)
  cases validB b
  · simp
  · cases decide (0 ≤ idxC b.wait id)
    · cases decide (0 ≤ idxC b.act id)
      · simp
      · simp only [cond_true, cond_false]
        split
        · exact ⟨by simp only; omega, by simp only; omega⟩
        · exact ⟨by simp only [putC_len]; omega, by simp only; omega⟩
    · exact ⟨by simp only [cond_true]; omega, by simp only [cond_true]; omega⟩
end Go.Proofs.Ytjlhfemfmkdlhaa.Ab

/- RmM -/
namespace Go.Proofs.Ytjlhfemfmkdlhaa.Ab
open Go.RowKit

def okC (next : Int) (x : Cl) : Prop := 0 ≤ x.a ∧ x.a ≤ next - 1 ∧ 8 ≤ x.b ∧ x.b ≤ 60 ∧ 0 ≤ x.c ∧ x.c ≤ 9
def VL (next : Int) (xs : List Cl) : Prop := (∀ x ∈ xs, okC next x) ∧ xs.Pairwise fun x y => x.a < y.a

theorem badC_iff {next : Int} (h0 : 0 ≤ next) (h1 : next ≤ 1000) (p : Option Cl) (x : Cl) : badC next p x = false ↔ okC next x ∧ ∀ q, p = some q → q.a < x.a := by
  have e : IntKind.i64.wrap (next - 1) = next - 1 := by rw [IntKind.wrap_i64]; omega
  unfold badC okC
  rw [e]
  simp only [inV, Bool.or_eq_false_iff, Bool.not_eq_false', Bool.and_eq_true, decide_eq_true_eq]
  cases p with
  | none => constructor
            · rintro ⟨h2, _, h3, h4⟩; exact ⟨by omega, fun q hq => by cases hq⟩
            · rintro ⟨h2, _⟩; exact ⟨by omega, rfl, by omega, by omega⟩
  | some q => constructor
              · rintro ⟨h2, h5, h3, h4⟩
                have := of_decide_eq_false h5
                exact ⟨by omega, fun q' hq => by cases hq; omega⟩
              · rintro ⟨h2, h3⟩
                have := h3 q rfl
                exact ⟨by omega, decide_eq_false (by omega), by omega, by omega⟩

theorem allC_at {next : Int} {xs : List Cl} (h : allC next xs = true) {i : Nat} {x : Cl} (hx : xs[i]? = some x) : badC next (prevC xs i) x = false := by
  rw [allC, List.all_eq_true] at h
  have := h i (by rw [List.mem_range]; exact (List.getElem?_eq_some_iff.1 hx).1)
  rw [hx] at this
  simpa using this

theorem allC_iff {next : Int} (h0 : 0 ≤ next) (h1 : next ≤ 1000) (xs : List Cl) : allC next xs = true ↔ VL next xs := by
  constructor
  · intro h
    have hb : ∀ i x, xs[i]? = some x → okC next x ∧ ∀ q, prevC xs i = some q → q.a < x.a := fun i x hx => (badC_iff h0 h1 _ _).1 (allC_at h hx)
    refine ⟨fun x hx => ?_, ?_⟩
    · obtain ⟨i, hi⟩ := List.getElem?_of_mem hx
      exact (hb i x hi).1
    · have key : ∀ (j i : Nat) (x y : Cl), i < j → xs[i]? = some x → xs[j]? = some y → x.a < y.a := fun j => by
        induction j with
        | zero => intro i x y hi; omega
        | succ j ih =>
          intro i x y hi hx hy
          have hj : j < xs.length := by have := (List.getElem?_eq_some_iff.1 hy).1; omega
          have h2 := (hb (j + 1) y hy).2 xs[j] (by rw [prevC, if_neg (by omega)]; exact List.getElem?_eq_getElem hj)
          rcases Nat.lt_or_ge i j with hlt | hge
          · have := ih i x xs[j] hlt hx (List.getElem?_eq_getElem hj)
            omega
          · obtain rfl : i = j := by omega
            rw [List.getElem?_eq_getElem hj] at hx
            cases hx
            exact h2
      rw [List.pairwise_iff_getElem]
      intro i j hi hj hij
      exact key j i _ _ hij (List.getElem?_eq_getElem hi) (List.getElem?_eq_getElem hj)
  · rintro ⟨h2, h3⟩
    refine allC_true fun i z hi hz => (badC_iff h0 h1 _ _).2 ⟨h2 z (List.mem_of_getElem? hz), fun q hq => ?_⟩
    unfold prevC at hq
    split at hq
    · cases hq
    · rw [List.pairwise_iff_getElem] at h3
      obtain ⟨k1, k2⟩ := List.getElem?_eq_some_iff.1 hq
      obtain ⟨k3, k4⟩ := List.getElem?_eq_some_iff.1 hz
      have := h3 (i - 1) i k1 k3 (by omega)
      rw [k2, k4] at this
      exact this

/-- A broker that is valid. -/
structure VB (b : Br) : Prop where
  p0 : 8 ≤ b.pool
  p1 : b.pool ≤ 120
  n0 : 0 ≤ b.next
  n1 : b.next ≤ 1000
  act : VL b.next b.act
  wait : VL b.next b.wait
  dis : ∀ x ∈ b.act, ∀ y ∈ b.wait, x.a ≠ y.a
  room : (b.act.length : Int) ≤ roomV b.pool
  full : b.wait.length = 0 ∨ (b.act.length : Int) = roomV b.pool
  five : b.wait.length ≤ 5

theorem valid_iff (b : Br) : validB b = true ↔ VB b := by
  unfold validB
  simp only [inV, Bool.and_eq_true, Bool.or_eq_true, decide_eq_true_eq]
  constructor
  · rintro ⟨⟨h1, h2⟩, ⟨h3, h4⟩, h5, h6, h7, h8, h9, h10⟩
    refine ⟨h1, h2, h3, h4, (allC_iff h3 h4 _).1 h5, (allC_iff h3 h4 _).1 h6, fun x hx y hy => ?_, h8, by omega, by omega⟩
    rw [disj, List.all_eq_true] at h7
    have := h7 x hx
    rw [List.all_eq_true] at this
    simpa using this y hy
  · rintro ⟨h1, h2, h3, h4, h5, h6, h7, h8, h9, h10⟩
    refine ⟨⟨h1, h2⟩, ⟨h3, h4⟩, (allC_iff h3 h4 _).2 h5, (allC_iff h3 h4 _).2 h6, ?_, h8, by omega, by omega⟩
    rw [disj, List.all_eq_true]
    intro x hx
    rw [List.all_eq_true]
    intro y hy
    simpa using h7 x hx y hy

theorem roomV_range {p : Int} (h0 : 8 ≤ p) (h1 : p ≤ 120) : 1 ≤ roomV p ∧ roomV p ≤ 5 ∧ 8 * roomV p ≤ p := by
  have e : IntKind.i64.wrap (p.tdiv 8) = p / 8 := by
    rw [Int.tdiv_eq_ediv_of_nonneg (by omega), IntKind.wrap_i64]
    omega
  unfold roomV
  rw [e]
  split <;> omega

theorem dropC_sub (xs : List Cl) (k : Nat) : (dropC xs k).Sublist xs := by
  unfold dropC
  conv => rhs; rw [← List.take_append_drop k xs]
  exact List.Sublist.append (List.Sublist.refl _) (by rw [← List.drop_drop]; exact List.drop_sublist _ _)
theorem VL.drop {next : Int} {xs : List Cl} (h : VL next xs) (k : Nat) : VL next (dropC xs k) :=
  ⟨fun x hx => h.1 x ((dropC_sub xs k).mem hx), h.2.sublist (dropC_sub xs k)⟩
theorem mem_dropC {xs : List Cl} {k : Nat} {x : Cl} (h : x ∈ dropC xs k) : x ∈ xs := (dropC_sub xs k).mem h

theorem mem_putC {xs : List Cl} {c x : Cl} : x ∈ putC xs c ↔ x = c ∨ x ∈ xs := by
  unfold putC
  rw [List.mem_append, List.mem_cons]
  constructor
  · rintro (h | h | h)
    · exact Or.inr (List.mem_of_mem_take h)
    · exact Or.inl h
    · exact Or.inr (List.mem_of_mem_drop h)
  · rintro (h | h)
    · exact Or.inr (Or.inl h)
    · rw [← List.take_append_drop (posC xs c) xs, List.mem_append] at h
      rcases h with h | h
      · exact Or.inl h
      · exact Or.inr (Or.inr h)
theorem VL.put {next : Int} {xs : List Cl} {c : Cl} (h : VL next xs) (hc : okC next c) (hne : ∀ x ∈ xs, x.a ≠ c.a) : VL next (putC xs c) := by
  refine ⟨fun x hx => ?_, ?_⟩
  · rcases mem_putC.1 hx with rfl | hx
    · exact hc
    · exact h.1 x hx
  · have hp := h.2
    have h1 : ∀ x ∈ xs.take (posC xs c), x.a < c.a := fun x hx => by
      obtain ⟨i, hi⟩ := List.getElem?_of_mem hx
      have hlt : i < posC xs c := by
        have := (List.getElem?_eq_some_iff.1 hi).1
        simp at this
        omega
      rw [List.getElem?_take, if_pos hlt] at hi
      exact posC_lt hlt hi
    have h2 : ∀ x ∈ xs.drop (posC xs c), c.a < x.a := fun x hx => by
      obtain ⟨i, hi⟩ := List.getElem?_of_mem hx
      rw [List.getElem?_drop] at hi
      obtain ⟨k1, k2⟩ := List.getElem?_eq_some_iff.1 hi
      have hq := posC_at (xs := xs) (c := c) (List.getElem?_eq_getElem (show posC xs c < xs.length by omega))
      have hx' : x ∈ xs := List.mem_of_getElem? hi
      have := hne x hx'
      rcases Nat.eq_zero_or_pos i with rfl | hpos
      · simp only [Nat.add_zero] at k2
        rw [k2] at hq
        omega
      · rw [List.pairwise_iff_getElem] at hp
        have := hp (posC xs c) (posC xs c + i) (by omega) k1 (by omega)
        rw [k2] at this
        omega
    unfold putC
    rw [List.pairwise_append]
    refine ⟨hp.sublist (List.take_sublist _ _), List.pairwise_cons.2 ⟨h2, hp.sublist (List.drop_sublist _ _)⟩, fun x hx y hy => ?_⟩
    rcases List.mem_cons.1 hy with rfl | hy
    · exact h1 x hx
    · have := h1 x hx
      have := h2 y hy
      omega

theorem idxs_some {xs : List Cl} {id : Int} (h : 0 ≤ idxC xs id) : ∃ z, xs[(idxC xs id).toNat]? = some z ∧ z.a = id := by
  unfold idxC at h ⊢
  cases hf : xs.findIdx? (fun c => decide (c.a = id)) with
  | none => rw [hf] at h; simp at h
  | some i =>
    rw [List.findIdx?_eq_some_iff_getElem] at hf
    obtain ⟨k1, k2, _⟩ := hf
    exact ⟨xs[i], by simp [List.getElem?_eq_getElem k1], of_decide_eq_true k2⟩
theorem idxs_none {xs : List Cl} {id : Int} : idxC xs id < 0 ↔ ∀ x ∈ xs, x.a ≠ id := by
  unfold idxC
  cases hf : xs.findIdx? (fun c => decide (c.a = id)) with
  | none =>
    rw [List.findIdx?_eq_none_iff] at hf
    exact ⟨fun _ x hx => of_decide_eq_false (hf x hx), fun _ => by decide⟩
  | some i =>
    rw [List.findIdx?_eq_some_iff_getElem] at hf
    obtain ⟨k1, k2, _⟩ := hf
    constructor
    · intro h; simp only at h; omega
    · intro h
      exact absurd (of_decide_eq_true k2) (h _ (List.getElem_mem k1))
/-- The place of a client of a list whose numbers ascend. -/
theorem idx_of {xs : List Cl} (hp : xs.Pairwise fun x y => x.a < y.a) {i : Nat} {z : Cl} (hz : xs[i]? = some z) : idxC xs z.a = i := by
  have h0 : 0 ≤ idxC xs z.a := by
    rcases Int.lt_or_le (idxC xs z.a) 0 with h | h
    · exact absurd rfl (idxs_none.1 h z (List.mem_of_getElem? hz))
    · exact h
  obtain ⟨y, hy, he⟩ := idxs_some h0
  rw [List.pairwise_iff_getElem] at hp
  obtain ⟨k1, k2⟩ := List.getElem?_eq_some_iff.1 hz
  obtain ⟨k3, k4⟩ := List.getElem?_eq_some_iff.1 hy
  rcases Nat.lt_trichotomy i (idxC xs z.a).toNat with h | h | h
  · have := hp _ _ k1 k3 h
    rw [k2, k4] at this
    omega
  · omega
  · have := hp _ _ k3 k1 h
    rw [k2, k4] at this
    omega

/-- A client that is taken out is there no more. -/
theorem dropC_not {xs : List Cl} (hp : xs.Pairwise fun x y => x.a < y.a) {i : Nat} {z : Cl} (hz : xs[i]? = some z) : ∀ x ∈ dropC xs i, x.a ≠ z.a := fun x hx => by
  rw [List.pairwise_iff_getElem] at hp
  obtain ⟨k1, k2⟩ := List.getElem?_eq_some_iff.1 hz
  unfold dropC at hx
  rw [List.mem_append] at hx
  rcases hx with hx | hx
  · obtain ⟨j, hj⟩ := List.getElem?_of_mem hx
    have hlt : j < i := by
      have := (List.getElem?_eq_some_iff.1 hj).1
      simp at this
      omega
    rw [List.getElem?_take, if_pos hlt] at hj
    obtain ⟨k3, k4⟩ := List.getElem?_eq_some_iff.1 hj
    have := hp _ _ k3 k1 hlt
    rw [k2, k4] at this
    omega
  · obtain ⟨j, hj⟩ := List.getElem?_of_mem hx
    rw [List.getElem?_drop] at hj
    obtain ⟨k3, k4⟩ := List.getElem?_eq_some_iff.1 hj
    have := hp _ _ k1 k3 (by omega)
    rw [k2, k4] at this
    omega

/-- Removing: valid behind, one less, and the removed client is gone. -/
theorem rm_valid {b : Br} {id : Int} (h : (rmV b id).2 = true) : VB (rmV b id).1 ∧ (rmV b id).1.act.length + (rmV b id).1.wait.length + 1 = b.act.length + b.wait.length ∧ (∀ x ∈ (rmV b id).1.act, x.a ≠ id) ∧ (rmV b id).1.pool = b.pool := by
  cases hv : validB b with
  | false => rw [rm_no hv] at h; cases h
  | true =>
    have V := (valid_iff b).1 hv
    cases h1 : decide (0 ≤ idxC b.wait id) with
    | true =>
      obtain ⟨z, hz, e⟩ := idxs_some (of_decide_eq_true h1)
      have hlt := (List.getElem?_eq_some_iff.1 hz).1
      have hl := dropC_len hlt
      rw [rm_wait hv h1]
      refine ⟨⟨V.p0, V.p1, V.n0, V.n1, V.act, V.wait.drop _, fun x hx y hy => V.dis x hx y (mem_dropC hy), V.room, ?_, ?_⟩, ?_, fun x hx => ?_, rfl⟩
      · rcases V.full with h | h
        · omega
        · exact Or.inr h
      · have := V.five
        show (dropC b.wait (idxC b.wait id).toNat).length ≤ 5
        omega
      · show b.act.length + (dropC b.wait (idxC b.wait id).toNat).length + 1 = _
        omega
      · rw [← e]
        exact V.dis x hx z (List.mem_of_getElem? hz)
    | false =>
      cases h2 : decide (0 ≤ idxC b.act id) with
      | false => rw [rm_none h1 h2] at h; cases h
      | true =>
        obtain ⟨z, hz, e⟩ := idxs_some (of_decide_eq_true h2)
        have hlt := (List.getElem?_eq_some_iff.1 hz).1
        have hl := dropC_len hlt
        have hw : ∀ y ∈ b.wait, y.a ≠ id := idxs_none.1 (by have := of_decide_eq_false h1; omega)
        rcases Nat.eq_zero_or_pos b.wait.length with h3 | h3
        · rw [rm_act0 hv h1 h2 h3]
          refine ⟨⟨V.p0, V.p1, V.n0, V.n1, V.act.drop _, V.wait, fun x hx y hy => V.dis x (mem_dropC hx) y hy, ?_, Or.inl h3, V.five⟩, ?_, fun x hx => ?_, rfl⟩
          · have := V.room
            show ((dropC b.act (idxC b.act id).toNat).length : Int) ≤ roomV b.pool
            omega
          · show (dropC b.act (idxC b.act id).toNat).length + b.wait.length + 1 = _
            omega
          · rw [← e]
            exact dropC_not V.act.2 hz x hx
        · have hb := bestC_lt h3
          have h4 := List.getElem?_eq_getElem hb
          generalize hc : b.wait[bestC b.wait] = c at h4
          rw [rm_act1 hv h1 h2 h4]
          have hcm : c ∈ b.wait := List.mem_of_getElem? h4
          have hl2 := dropC_len hb
          have hpl := putC_len (dropC b.act (idxC b.act id).toNat) c
          refine ⟨⟨V.p0, V.p1, V.n0, V.n1, (V.act.drop _).put (V.wait.1 c hcm) (fun x hx => V.dis x (mem_dropC hx) c hcm), V.wait.drop _, fun x hx y hy => ?_, ?_, ?_, ?_⟩, ?_, fun x hx => ?_, rfl⟩
          · rcases mem_putC.1 hx with rfl | hx
            · exact fun e => dropC_not V.wait.2 h4 y hy e.symm
            · exact V.dis x (mem_dropC hx) y (mem_dropC hy)
          · have := V.room
            show ((putC (dropC b.act (idxC b.act id).toNat) c).length : Int) ≤ _
            simp only
            omega
          · rcases V.full with h | h
            · omega
            · right
              show ((putC (dropC b.act (idxC b.act id).toNat) c).length : Int) = _
              simp only
              omega
          · have := V.five
            show (dropC b.wait (bestC b.wait)).length ≤ 5
            omega
          · show (putC (dropC b.act (idxC b.act id).toNat) c).length + (dropC b.wait (bestC b.wait)).length + 1 = _
            omega
          · rcases mem_putC.1 hx with rfl | hx
            · exact hw x hcm
            · rw [← e]
              exact dropC_not V.act.2 hz x hx
theorem rm_false {b : Br} {id : Int} (h : (rmV b id).2 = false) : (rmV b id).1 = b := by
  cases hv : validB b with
  | false => rw [rm_no hv]
  | true =>
    cases h1 : decide (0 ≤ idxC b.wait id) with
    | true => rw [rm_wait hv h1] at h; cases h
    | false =>
      cases h2 : decide (0 ≤ idxC b.act id) with
      | false => rw [rm_none h1 h2]
      | true =>
        rcases Nat.eq_zero_or_pos b.wait.length with h3 | h3
        · rw [rm_act0 hv h1 h2 h3] at h; cases h
        · rw [rm_act1 hv h1 h2 (List.getElem?_eq_getElem (bestC_lt h3))] at h; cases h
/-- An active client can be removed. -/
theorem rm_active {b : Br} {i : Nat} {z : Cl} (V : VB b) (hz : b.act[i]? = some z) : (rmV b z.a).2 = true := by
  have hv := (valid_iff b).2 V
  have h2 : decide (0 ≤ idxC b.act z.a) = true := by rw [idx_of V.act.2 hz]; exact decide_eq_true (Int.natCast_nonneg _)
  have h1 : decide (0 ≤ idxC b.wait z.a) = false := decide_eq_false (by
    have := idxs_none.2 fun y hy e => V.dis z (List.mem_of_getElem? hz) y hy e.symm
    omega)
  rcases Nat.eq_zero_or_pos b.wait.length with h3 | h3
  · rw [rm_act0 hv h1 h2 h3]
  · rw [rm_act1 hv h1 h2 (List.getElem?_eq_getElem (bestC_lt h3))]

/-- A new client: valid behind, one more. -/
theorem ad_valid {b : Br} {g r : Int} (h : (adV b g r).2.2 = true) : VB (adV b g r).1 ∧ (adV b g r).1.act.length + (adV b g r).1.wait.length = b.act.length + b.wait.length + 1 ∧ (adV b g r).2.1 = b.next := by
  cases hb : badA b g r with
  | true => rw [ad_no hb] at h; cases h
  | false =>
    have hb' := hb
    simp only [badA, inV, Bool.or_eq_false_iff, Bool.not_eq_false', Bool.and_eq_true, decide_eq_true_eq, decide_eq_false_iff_not] at hb'
    obtain ⟨hv, ⟨g0, g1⟩, ⟨r0, r1⟩, hn, hw⟩ := hb'
    have V := (valid_iff b).1 hv
    have e : IntKind.i64.wrap (b.next + 1) = b.next + 1 := by rw [IntKind.wrap_i64]; have := V.n0; have := V.n1; omega
    have hmore : ∀ {xs : List Cl}, VL b.next xs → VL (b.next + 1) xs := fun h => ⟨fun x hx => by have := h.1 x hx; unfold okC at this ⊢; omega, h.2⟩
    have hadd : ∀ {xs : List Cl}, VL b.next xs → VL (b.next + 1) (xs ++ [⟨b.next, g, r⟩]) := fun {xs} h => by
      refine ⟨fun x hx => ?_, ?_⟩
      · rcases List.mem_append.1 hx with hx | hx
        · exact (hmore h).1 x hx
        · rw [List.mem_singleton] at hx
          subst hx
          have := V.n0
          refine ⟨?_, ?_, ?_, ?_, ?_, ?_⟩ <;> simp only <;> omega
      · rw [List.pairwise_append]
        refine ⟨h.2, List.pairwise_singleton _ _, fun x hx y hy => ?_⟩
        rw [List.mem_singleton] at hy
        subst hy
        have := (h.1 x hx)
        unfold okC at this
        simp only
        omega
    have hold : ∀ {xs : List Cl}, VL b.next xs → ∀ x ∈ xs, x.a ≠ b.next := fun h x hx => by have := h.1 x hx; unfold okC at this; omega
    cases ha : decide ((b.act.length : Int) < roomV b.pool) with
    | true =>
      have ha' := of_decide_eq_true ha
      rw [ad_act hb ha, e]
      refine ⟨⟨V.p0, V.p1, by have := V.n0; simp only; omega, by have := V.n1; simp only; omega, hadd V.act, hmore V.wait, fun x hx y hy => ?_, ?_, ?_, V.five⟩, by simp only [List.length_append, List.length_singleton]; omega, rfl⟩
      · rcases List.mem_append.1 hx with hx | hx
        · exact V.dis x hx y hy
        · rw [List.mem_singleton] at hx
          subst hx
          exact fun e => hold V.wait y hy e.symm
      · simp only [List.length_append, List.length_singleton]
        omega
      · rcases V.full with h | h
        · exact Or.inl h
        · omega
    | false =>
      have ha' := of_decide_eq_false ha
      rw [ad_wait hb ha, e]
      have := V.room
      have := V.five
      refine ⟨⟨V.p0, V.p1, by have := V.n0; simp only; omega, by have := V.n1; simp only; omega, hmore V.act, hadd V.wait, fun x hx y hy => ?_, V.room, Or.inr (by simp only; omega), ?_⟩, by simp only [List.length_append, List.length_singleton]; omega, rfl⟩
      · rcases List.mem_append.1 hy with hy | hy
        · exact V.dis x hx y hy
        · rw [List.mem_singleton] at hy
          subst hy
          exact hold V.act x hx
      · simp only [List.length_append, List.length_singleton]
        omega
theorem ad_false {b : Br} {g r : Int} (h : (adV b g r).2.2 = false) : (adV b g r).1 = b := by
  cases hb : badA b g r with
  | true => rw [ad_no hb]
  | false =>
    cases ha : decide ((b.act.length : Int) < roomV b.pool) with
    | true => rw [ad_act hb ha] at h; cases h
    | false => rw [ad_wait hb ha] at h; cases h

/-- Another request: valid behind. -/
theorem VL.set {next n : Int} {xs : List Cl} (h : VL next xs) (n0 : 8 ≤ n) (n1 : n ≤ 60) (i : Nat) : VL next (setB xs i n) ∧ ∀ y ∈ setB xs i n, ∃ x ∈ xs, x.a = y.a := by
  unfold setB
  cases hz : xs[i]? with
  | none => exact ⟨h, fun y hy => ⟨y, hy, rfl⟩⟩
  | some z =>
    have hk : ∀ (j : Nat) (y : Cl), (xs.set i ⟨z.a, n, z.c⟩)[j]? = some y → ∃ x, xs[j]? = some x ∧ x.a = y.a ∧ okC next y := fun j y hy => by
      rw [List.getElem?_set] at hy
      split at hy
      · rename_i e
        subst e
        split at hy
        · cases hy
          have := h.1 z (List.mem_of_getElem? hz)
          exact ⟨z, hz, rfl, by unfold okC at this ⊢; simp only; omega⟩
        · cases hy
      · exact ⟨y, hy, rfl, h.1 y (List.mem_of_getElem? hy)⟩
    refine ⟨⟨fun y hy => ?_, ?_⟩, fun y hy => ?_⟩
    · obtain ⟨j, hj⟩ := List.getElem?_of_mem hy
      obtain ⟨x, _, _, h3⟩ := hk j y hj
      exact h3
    · rw [List.pairwise_iff_getElem]
      intro j k hj hk' hjk
      obtain ⟨x, e1, e2, _⟩ := hk j _ (List.getElem?_eq_getElem hj)
      obtain ⟨x', e1', e2', _⟩ := hk k _ (List.getElem?_eq_getElem hk')
      have hp := h.2
      rw [List.pairwise_iff_getElem] at hp
      obtain ⟨q1, q2⟩ := List.getElem?_eq_some_iff.1 e1
      obtain ⟨q3, q4⟩ := List.getElem?_eq_some_iff.1 e1'
      have := hp j k q1 q3 hjk
      rw [q2, q4] at this
      omega
    · obtain ⟨j, hj⟩ := List.getElem?_of_mem hy
      obtain ⟨x, e1, e2, _⟩ := hk j y hj
      exact ⟨x, List.mem_of_getElem? e1, e2⟩
theorem sr_valid {b : Br} {id n : Int} (h : (srV b id n).2 = true) : VB (srV b id n).1 := by
  cases hv : validB b && inV n 8 60 with
  | false => rw [sr_no hv] at h; cases h
  | true =>
    have hv' := hv
    rw [Bool.and_eq_true] at hv'
    have V := (valid_iff b).1 hv'.1
    have hn : 8 ≤ n ∧ n ≤ 60 := by have := hv'.2; simpa [inV] using this
    cases ha : decide (0 ≤ idxC b.act id) with
    | true =>
      rw [sr_act hv ha]
      obtain ⟨q1, q2⟩ := V.act.set hn.1 hn.2 (idxC b.act id).toNat
      exact ⟨V.p0, V.p1, V.n0, V.n1, q1, V.wait, fun x hx y hy => by obtain ⟨x', h1, h2⟩ := q2 x hx; rw [← h2]; exact V.dis x' h1 y hy, by simp only [setB_len]; exact V.room, by simp only [setB_len]; exact V.full, V.five⟩
    | false =>
      cases hw : decide (0 ≤ idxC b.wait id) with
      | true =>
        rw [sr_wait hv ha hw]
        obtain ⟨q1, q2⟩ := V.wait.set hn.1 hn.2 (idxC b.wait id).toNat
        exact ⟨V.p0, V.p1, V.n0, V.n1, V.act, q1, fun x hx y hy => by obtain ⟨y', h1, h2⟩ := q2 y hy; rw [← h2]; exact V.dis x hx y' h1, V.room, by simp only [setB_len]; exact V.full, by simp only [setB_len]; exact V.five⟩
      | false => rw [sr_none ha hw] at h; cases h
end Go.Proofs.Ytjlhfemfmkdlhaa.Ab

/- GrM -/
namespace Go.Proofs.Ytjlhfemfmkdlhaa.Ab
open Go.RowKit

theorem sum_set : ∀ (l : List Int) (k : Nat) (x y : Int), l[k]? = some x → (l.set k y).sum = l.sum + y - x
  | [], k, x, y, h => by simp at h
  | a :: l, 0, x, y, h => by simp at h; subst h; simp only [List.set_cons_zero, List.sum_cons]; omega
  | a :: l, k + 1, x, y, h => by simp only [List.set_cons_succ, List.sum_cons]; rw [sum_set l k x y (by simpa using h)]; omega
theorem sum_nn : ∀ (l : List Int), (∀ x ∈ l, 0 ≤ x) → 0 ≤ l.sum
  | [], _ => by simp
  | a :: l, h => by rw [List.sum_cons]; have := h a (List.mem_cons_self ..); have := sum_nn l fun x hx => h x (List.mem_cons_of_mem _ hx); omega
theorem sum_rep (n : Nat) : (List.replicate n (8 : Int)).sum = 8 * n := by
  induction n with
  | zero => rfl
  | succ n ih => rw [List.replicate_succ, List.sum_cons, ih]; omega

/-- What holds while the rest is shared out: 'D i': client i has had its share. -/
structure GI (pool : Int) (xs : List Cl) (D : Nat → Prop) (p : Int) (s : List Int × Int) : Prop where
  len : s.1.length = xs.length
  r0 : 0 ≤ s.2
  sum : s.1.sum + s.2 = pool
  new : ∀ i g, s.1[i]? = some g → ¬ D i → g = 8
  old : ∀ (i : Nat) g z, s.1[i]? = some g → xs[i]? = some z → D i → 8 ≤ g ∧ g ≤ z.b ∧ (g < z.b → s.2 = 0) ∧ p ≤ z.c
  ord : ∀ (i k : Nat) g h y z, s.1[i]? = some g → s.1[k]? = some h → xs[i]? = some y → xs[k]? = some z → D i → D k → z.c < y.c → g < y.b → h = 8

theorem stepG_I {pool : Int} {xs : List Cl} {D : Nat → Prop} {p : Int} {s : List Int × Int} {k : Nat} {z : Cl} (h : GI pool xs D p s) (hz : xs[k]? = some z) (hb : 8 ≤ z.b ∧ z.b ≤ 60) (hp : pool ≤ 120) (hD : z.c = p → ¬ D k) :
    GI pool xs (fun i => D i ∨ (i = k ∧ z.c = p)) p (stepG z p k s) := by
  unfold stepG
  split
  · rename_i hc
    have hk : k < s.1.length := by rw [h.len]; exact (List.getElem?_eq_some_iff.1 hz).1
    have hg := List.getElem?_eq_getElem hk
    have h8 : s.1[k] = 8 := h.new k _ hg (hD hc)
    have hsum0 : 0 ≤ s.1.sum := by
      refine sum_nn _ fun x hx => ?_
      obtain ⟨i, hi⟩ := List.getElem?_of_mem hx
      have hi' : i < xs.length := by rw [← h.len]; exact (List.getElem?_eq_some_iff.1 hi).1
      by_cases hDi : D i
      · have := (h.old i x _ hi (List.getElem?_eq_getElem hi') hDi).1; omega
      · have := h.new i x hi hDi; omega
    have hr := h.r0
    have hs := h.sum
    have e1 : IntKind.i64.wrap (z.b - 8) = z.b - 8 := by rw [IntKind.wrap_i64]; omega
    have hm : moreG z s.2 = if z.b - 8 < s.2 then z.b - 8 else s.2 := by unfold moreG; rw [e1]
    generalize hmv : moreG z s.2 = m at hm
    have hm0 : 0 ≤ m ∧ m ≤ z.b - 8 ∧ m ≤ s.2 ∧ (m < z.b - 8 → m = s.2) := by rw [hm]; split <;> omega
    have e2 : IntKind.i64.wrap ((s.1[k]?).getD 0 + m) = 8 + m := by rw [hg, Option.getD_some, h8, IntKind.wrap_i64]; omega
    have e3 : IntKind.i64.wrap (s.2 - m) = s.2 - m := by rw [IntKind.wrap_i64]; omega
    rw [e2, e3]
    have hset : ∀ (i : Nat) g, (s.1.set k (8 + m))[i]? = some g → (i = k ∧ g = 8 + m) ∨ (i ≠ k ∧ s.1[i]? = some g) := fun i g hi => by
      rcases getElem?_set' hi with h1 | h1
      · exact Or.inl h1
      · exact Or.inr h1
    refine ⟨by simp [h.len], by simp only; omega, by simp only [sum_set _ _ _ _ hg, h8]; omega, fun i g hi hDi => ?_, fun i g y hi hy hDi => ?_, fun i j g q y y' hi hj hy hy' hDi hDj hlt hgl => ?_⟩
    · rcases hset i g hi with ⟨rfl, _⟩ | ⟨hne, hi⟩
      · exact absurd (Or.inr ⟨rfl, hc⟩) hDi
      · exact h.new i g hi fun hd => hDi (Or.inl hd)
    · rcases hset i g hi with ⟨rfl, rfl⟩ | ⟨hne, hi⟩
      · rw [hz] at hy
        cases hy
        refine ⟨by omega, by omega, fun hl => ?_, by omega⟩
        simp only
        omega
      · rcases hDi with hDi | ⟨rfl, _⟩
        · obtain ⟨q1, q2, q3, q4⟩ := h.old i g y hi hy hDi
          refine ⟨q1, q2, fun hl => ?_, q4⟩
          have := q3 hl
          simp only
          omega
        · exact absurd rfl hne
    · rcases hset i g hi with ⟨rfl, rfl⟩ | ⟨hne, hi2⟩
      · rw [hz] at hy
        cases hy
        rcases hset j q hj with ⟨rfl, rfl⟩ | ⟨hne', hj2⟩
        · rw [hz] at hy'
          cases hy'
          omega
        · rcases hDj with hDj | ⟨rfl, _⟩
          · have := (h.old j q y' hj2 hy' hDj).2.2.2
            omega
          · exact absurd rfl hne'
      · rcases hDi with hDi | ⟨rfl, _⟩
        · rcases hset j q hj with ⟨rfl, rfl⟩ | ⟨hne', hj2⟩
          · have := (h.old i g y hi2 hy hDi).2.2.1 hgl
            omega
          · rcases hDj with hDj | ⟨rfl, _⟩
            · exact h.ord i j g q y y' hi2 hj2 hy hy' hDi hDj hlt hgl
            · exact absurd rfl hne'
        · exact absurd rfl hne
  · rename_i hc
    have hiff : ∀ i, (D i ∨ (i = k ∧ z.c = p)) ↔ D i := fun i => ⟨fun h => h.elim id fun h => absurd h.2 hc, Or.inl⟩
    refine ⟨h.len, h.r0, h.sum, fun i g hi hd => h.new i g hi fun hd' => hd (Or.inl hd'), fun i g y hi hy hd => h.old i g y hi hy ((hiff i).1 hd), fun i j g q y y' hi hj hy hy' hDi hDj => h.ord i j g q y y' hi hj hy hy' ((hiff i).1 hDi) ((hiff j).1 hDj)⟩

theorem GI.congr {pool : Int} {xs : List Cl} {D D' : Nat → Prop} {p p' : Int} {s : List Int × Int} (h : GI pool xs D p s) (hD : ∀ i, i < xs.length → (D' i ↔ D i)) (hp : p' ≤ p) : GI pool xs D' p' s := by
  have hlt : ∀ (i : Nat) g, s.1[i]? = some g → i < xs.length := fun i g hi => by rw [← h.len]; exact (List.getElem?_eq_some_iff.1 hi).1
  refine ⟨h.len, h.r0, h.sum, fun i g hi hd => h.new i g hi fun hd' => hd ((hD i (hlt i g hi)).2 hd'), fun i g y hi hy hd => ?_, fun i j g q y y' hi hj hy hy' hDi hDj => h.ord i j g q y y' hi hj hy hy' ((hD i (hlt i g hi)).1 hDi) ((hD j (hlt j q hj)).1 hDj)⟩
  obtain ⟨q1, q2, q3, q4⟩ := h.old i g y hi hy ((hD i (hlt i g hi)).1 hd)
  exact ⟨q1, q2, q3, by omega⟩

def doneB (xs : List Cl) (p : Int) (k : Nat) (i : Nat) : Prop := ∃ z, xs[i]? = some z ∧ (p < z.c ∨ (z.c = p ∧ i < k))

theorem innerG_I {pool : Int} {xs : List Cl} {p : Int} {s : List Int × Int} (hb : ∀ x ∈ xs, 8 ≤ x.b ∧ x.b ≤ 60) (hp : pool ≤ 120) (h : GI pool xs (doneB xs p 0) p s) : ∀ k, k ≤ xs.length → GI pool xs (doneB xs p k) p (innerG xs p s k)
  | 0, _ => h
  | k + 1, hk => by
    have ih := innerG_I hb hp h k (by omega)
    have hz := List.getElem?_eq_getElem (show k < xs.length by omega)
    rw [innerG_at hz]
    refine (stepG_I ih hz (hb _ (List.mem_of_getElem? hz)) hp ?_).congr (fun i hi => ?_) (Int.le_refl _)
    · rintro hc ⟨y, hy, h1⟩
      rw [hz] at hy
      cases hy
      omega
    · unfold doneB
      constructor
      · rintro ⟨y, hy, h1 | ⟨h1, h2⟩⟩
        · exact Or.inl ⟨y, hy, Or.inl h1⟩
        · rcases Nat.lt_or_ge i k with h3 | h3
          · exact Or.inl ⟨y, hy, Or.inr ⟨h1, h3⟩⟩
          · obtain rfl : i = k := by omega
            rw [hz] at hy
            cases hy
            exact Or.inr ⟨rfl, h1⟩
      · rintro (⟨y, hy, h1 | ⟨h1, h2⟩⟩ | ⟨rfl, h1⟩)
        · exact ⟨y, hy, Or.inl h1⟩
        · exact ⟨y, hy, Or.inr ⟨h1, by omega⟩⟩
        · exact ⟨_, hz, Or.inr ⟨h1, by omega⟩⟩

theorem outerG_I {pool : Int} {xs : List Cl} {s : List Int × Int} (hb : ∀ x ∈ xs, 8 ≤ x.b ∧ x.b ≤ 60) (hp : pool ≤ 120) (h : GI pool xs (doneB xs 9 0) 9 s) : ∀ j : Nat, GI pool xs (doneB xs (9 - j) 0) (9 - j) (outerG xs s j)
  | 0 => h
  | j + 1 => by
    have ih := outerG_I hb hp h j
    rw [outerG]
    refine (innerG_I hb hp ih xs.length (Nat.le_refl _)).congr (fun i hi => ?_) (by omega)
    unfold doneB
    constructor
    · rintro ⟨y, hy, h1 | ⟨_, h2⟩⟩
      · rcases Int.lt_or_le (9 - j) y.c with h3 | h3
        · exact ⟨y, hy, Or.inl h3⟩
        · exact ⟨y, hy, Or.inr ⟨by omega, hi⟩⟩
      · omega
    · rintro ⟨y, hy, h1 | ⟨h1, _⟩⟩
      · exact ⟨y, hy, Or.inl (by omega)⟩
      · exact ⟨y, hy, Or.inl (by omega)⟩

theorem frI_val {pool : Int} (h0 : 0 ≤ pool) (h1 : pool ≤ 120) : ∀ i : Nat, 8 * (i : Int) ≤ pool → frI pool i = pool - 8 * i
  | 0, _ => by simp [frI]
  | i + 1, h => by
    rw [frI, frI_val h0 h1 i (by omega), IntKind.wrap_i64]
    omega
theorem start_I {b : Br} (V : VB b) : GI b.pool b.act (doneB b.act 9 0) 9 (startG b) := by
  have h1 := V.p0
  have h2 := V.p1
  have h3 := V.room
  have h4 := roomV_range h1 h2
  have h5 := frI_val (by omega) h2 b.act.length (by omega)
  have hno : ∀ i, ¬ doneB b.act 9 0 i := by
    rintro i ⟨z, hz, h | ⟨_, h⟩⟩
    · have := (V.act.1 z (List.mem_of_getElem? hz))
      unfold okC at this
      omega
    · omega
  refine ⟨by simp [startG], by simp only [startG]; omega, by simp only [startG, sum_rep]; omega, fun i g hi _ => ?_, fun i g z _ _ hd => absurd hd (hno i), fun i k g h y z _ _ _ _ hd => absurd hd (hno i)⟩
  simp only [startG, List.getElem?_replicate] at hi
  split at hi
  · cases hi; rfl
  · cases hi
theorem act_range {b : Br} (V : VB b) : ∀ x ∈ b.act, 8 ≤ x.b ∧ x.b ≤ 60 := fun x hx => by
  have := V.act.1 x hx
  unfold okC at this
  omega
theorem grants_I {b : Br} (V : VB b) : GI b.pool b.act (doneB b.act (-1) 0) (-1) (outerG b.act (startG b) 10) := outerG_I (act_range V) V.p1 (start_I V) 10
theorem all_done {b : Br} (V : VB b) {i : Nat} {z : Cl} (hz : b.act[i]? = some z) : doneB b.act (-1) 0 i := ⟨z, hz, Or.inl (by
  have := V.act.1 z (List.mem_of_getElem? hz)
  unfold okC at this
  omega)⟩
/-- What is said of grants. -/
theorem grants_ok {b : Br} (V : VB b) : (cg b).length = b.act.length ∧ (cg b).sum ≤ b.pool ∧ (∀ (i : Nat) g z, (cg b)[i]? = some g → b.act[i]? = some z → 8 ≤ g ∧ g ≤ z.b) ∧
    (∀ (i k : Nat) g h y z, (cg b)[i]? = some g → (cg b)[k]? = some h → b.act[i]? = some y → b.act[k]? = some z → z.c < y.c → g < y.b → h = 8) := by
  have hv := (valid_iff b).2 V
  have I := grants_I V
  rw [cg, hv, cond_true]
  refine ⟨I.len, by have := I.sum; have := I.r0; show (outerG b.act (startG b) 10).1.sum ≤ _; omega, fun i g z hi hz => ?_, fun i k g h y z hi hk hy hz hlt hgl => I.ord i k g h y z hi hk hy hz (all_done V hy) (all_done V hz) hlt hgl⟩
  obtain ⟨q1, q2, _⟩ := I.old i g z hi hz (all_done V hz)
  exact ⟨q1, q2⟩

/-! ### One client less: nobody gets less -/
def sh (q i : Nat) : Nat := if i < q then i else i - 1
theorem drop_sh {xs : List Cl} {q i : Nat} (hi : i ≠ q) (hq : q < xs.length) : (dropC xs q)[sh q i]? = xs[i]? := by
  unfold dropC sh
  split
  · rename_i h
    rw [List.getElem?_append_left (by simp; omega), List.getElem?_take, if_pos h]
  · rename_i h
    rw [List.getElem?_append_right (by simp; omega), List.getElem?_drop]
    congr 1
    simp
    omega
structure GS (q : Nat) (s s' : List Int × Int) : Prop where
  r : s.2 ≤ s'.2
  g : ∀ (i : Nat) g g', i ≠ q → s.1[i]? = some g → s'.1[sh q i]? = some g' → g ≤ g'
def shk (q k : Nat) : Nat := if k ≤ q then k else k - 1

theorem moreG_val {z : Cl} {r : Int} (hb : 8 ≤ z.b ∧ z.b ≤ 60) : moreG z r = if z.b - 8 < r then z.b - 8 else r := by
  have e1 : IntKind.i64.wrap (z.b - 8) = z.b - 8 := by rw [IntKind.wrap_i64]; omega
  unfold moreG
  rw [e1]
theorem GI.sum0 {pool : Int} {xs : List Cl} {D : Nat → Prop} {p : Int} {s : List Int × Int} (h : GI pool xs D p s) : 0 ≤ s.1.sum := by
  refine sum_nn _ fun x hx => ?_
  obtain ⟨i, hi⟩ := List.getElem?_of_mem hx
  have hi' : i < xs.length := by rw [← h.len]; exact (List.getElem?_eq_some_iff.1 hi).1
  by_cases hDi : D i
  · have := (h.old i x _ hi (List.getElem?_eq_getElem hi') hDi).1; omega
  · have := h.new i x hi hDi; omega
theorem stepG_val {pool : Int} {xs : List Cl} {D : Nat → Prop} {p : Int} {s : List Int × Int} {k : Nat} {z : Cl} (h : GI pool xs D p s) (hz : xs[k]? = some z) (hb : 8 ≤ z.b ∧ z.b ≤ 60) (hp : pool ≤ 120) (hD : ¬ D k) (hc : z.c = p) :
    stepG z p k s = (s.1.set k (8 + moreG z s.2), s.2 - moreG z s.2) ∧ k < s.1.length ∧ 0 ≤ moreG z s.2 ∧ moreG z s.2 ≤ s.2 := by
  have hk : k < s.1.length := by rw [h.len]; exact (List.getElem?_eq_some_iff.1 hz).1
  have hg := List.getElem?_eq_getElem hk
  have h8 : s.1[k] = 8 := h.new k _ hg hD
  have hsum0 := h.sum0
  have hr := h.r0
  have hs := h.sum
  have hm := moreG_val (r := s.2) hb
  generalize hmv : moreG z s.2 = m at hm
  have hm0 : 0 ≤ m ∧ m ≤ z.b - 8 ∧ m ≤ s.2 := by rw [hm]; split <;> omega
  have e2 : IntKind.i64.wrap ((s.1[k]?).getD 0 + m) = 8 + m := by rw [hg, Option.getD_some, h8, IntKind.wrap_i64]; omega
  have e3 : IntKind.i64.wrap (s.2 - m) = s.2 - m := by rw [IntKind.wrap_i64]; omega
  refine ⟨?_, hk, hm0.1, hm0.2.2⟩
  unfold stepG
  rw [if_pos hc, hmv, e2, e3]

theorem innerG_S {pool : Int} {xs : List Cl} {q : Nat} {p : Int} {s s' : List Int × Int} (hq : q < xs.length) (hb : ∀ x ∈ xs, 8 ≤ x.b ∧ x.b ≤ 60) (hp : pool ≤ 120) (h : GI pool xs (doneB xs p 0) p s) (h' : GI pool (dropC xs q) (doneB (dropC xs q) p 0) p s') (hs : GS q s s') :
    ∀ k, k ≤ xs.length → GS q (innerG xs p s k) (innerG (dropC xs q) p s' (shk q k))
  | 0, _ => by simpa [shk, innerG] using hs
  | k + 1, hk => by
    have ih := innerG_S hq hb hp h h' hs k (by omega)
    have hz := List.getElem?_eq_getElem (show k < xs.length by omega)
    generalize xs[k] = z at hz
    have hzb := hb z (List.mem_of_getElem? hz)
    have I := innerG_I hb hp h k (by omega)
    have hb' : ∀ x ∈ dropC xs q, 8 ≤ x.b ∧ x.b ≤ 60 := fun x hx => hb x (mem_dropC hx)
    have hlen := dropC_len hq
    have I' := innerG_I hb' hp h' (shk q k) (by unfold shk; split <;> omega)
    have hnot : z.c = p → ¬ doneB xs p k k := by
      rintro hc ⟨y, hy, h1⟩
      rw [hz] at hy
      cases hy
      omega
    rw [innerG_at hz]
    by_cases hkq : k = q
    · subst hkq
      have e : shk k (k + 1) = shk k k := by unfold shk; rw [if_neg (by omega), if_pos (by omega)]; omega
      rw [e]
      by_cases hc : z.c = p
      · obtain ⟨e1, e2, e3, e4⟩ := stepG_val I hz hzb hp (hnot hc) hc
        rw [e1]
        refine ⟨by have := ih.r; simp only; omega, fun i g g' hi hg hg' => ih.g i g g' hi ?_ hg'⟩
        rw [List.getElem?_set_ne (Ne.symm hi)] at hg
        exact hg
      · rw [stepG_no hc]
        exact ih
    · have e : shk q (k + 1) = shk q k + 1 := by unfold shk; split <;> split <;> omega
      have e' : shk q k = sh q k := by unfold shk sh; split <;> split <;> omega
      have hz' : (dropC xs q)[shk q k]? = some z := by rw [e', drop_sh hkq hq]; exact hz
      rw [e, innerG_at hz']
      by_cases hc : z.c = p
      · have hnot' : ¬ doneB (dropC xs q) p (shk q k) (shk q k) := by
          rintro ⟨y, hy, h1⟩
          rw [hz'] at hy
          cases hy
          omega
        obtain ⟨e1, e2, e3, e4⟩ := stepG_val I hz hzb hp (hnot hc) hc
        obtain ⟨f1, f2, f3, f4⟩ := stepG_val I' hz' hzb hp hnot' hc
        have hr := ih.r
        have m1 := moreG_val (r := (innerG xs p s k).2) hzb
        have m2 := moreG_val (r := (innerG (dropC xs q) p s' (shk q k)).2) hzb
        rw [e1, f1]
        generalize moreG z (innerG xs p s k).2 = m at m1 e3 e4
        generalize moreG z (innerG (dropC xs q) p s' (shk q k)).2 = m' at m2 f3 f4
        have hmm : m ≤ m' ∧ (innerG xs p s k).2 - m ≤ (innerG (dropC xs q) p s' (shk q k)).2 - m' := by rw [m1, m2]; split <;> split <;> omega
        refine ⟨hmm.2, fun i g g' hi hg hg' => ?_⟩
        rcases getElem?_set' hg with ⟨rfl, rfl⟩ | ⟨hne, hg⟩
        · rw [e'] at hg'
          rcases getElem?_set' hg' with ⟨_, rfl⟩ | ⟨hne', _⟩
          · omega
          · exact absurd rfl hne'
        · rw [e'] at hg'
          rcases getElem?_set' hg' with ⟨h1, _⟩ | ⟨hne', hg2⟩
          · exfalso
            unfold sh at h1
            split at h1 <;> split at h1 <;> omega
          · rw [← e'] at hg2
            exact ih.g i g g' hi hg hg2
      · rw [stepG_no hc, stepG_no hc]
        exact ih
theorem outerG_S {pool : Int} {xs : List Cl} {q : Nat} {s s' : List Int × Int} (hq : q < xs.length) (hb : ∀ x ∈ xs, 8 ≤ x.b ∧ x.b ≤ 60) (hp : pool ≤ 120) (h : GI pool xs (doneB xs 9 0) 9 s) (h' : GI pool (dropC xs q) (doneB (dropC xs q) 9 0) 9 s') (hs : GS q s s') :
    ∀ j : Nat, GS q (outerG xs s j) (outerG (dropC xs q) s' j)
  | 0 => hs
  | j + 1 => by
    have ih := outerG_S hq hb hp h h' hs j
    have hb' : ∀ x ∈ dropC xs q, 8 ≤ x.b ∧ x.b ≤ 60 := fun x hx => hb x (mem_dropC hx)
    have := innerG_S hq hb hp (outerG_I hb hp h j) (outerG_I hb' hp h' j) ih xs.length (Nat.le_refl _)
    rw [outerG, outerG, dropC_len hq]
    rw [show shk q xs.length = xs.length - 1 by unfold shk; rw [if_neg (by omega)]] at this
    exact this
/-- Where nobody waits, a removal leaves nobody with less. -/
theorem grants_more {b : Br} (V : VB b) {q : Nat} (hq : q < b.act.length) (V' : VB ⟨b.pool, b.next, dropC b.act q, b.wait⟩) {i : Nat} (hi : i ≠ q) {g g' : Int} (hg : (cg b)[i]? = some g) (hg' : (cg ⟨b.pool, b.next, dropC b.act q, b.wait⟩)[sh q i]? = some g') : g ≤ g' := by
  have hv := (valid_iff b).2 V
  have hv' := (valid_iff _).2 V'
  rw [cg, hv, cond_true] at hg
  rw [cg, hv', cond_true] at hg'
  have h1 := V.p0
  have h2 := V.p1
  have h3 := V.room
  have h4 := roomV_range h1 h2
  have hl := dropC_len hq
  have f1 := frI_val (by omega) h2 b.act.length (by omega)
  have f2 := frI_val (by omega) h2 (dropC b.act q).length (by omega)
  refine (outerG_S (pool := b.pool) hq (act_range V) h2 (start_I V) (start_I V') ⟨?_, fun i g g' hi hg hg' => ?_⟩ 10).g i g g' hi hg hg'
  · simp only [startG]
    omega
  · simp only [startG, List.getElem?_replicate] at hg hg'
    split at hg
    · split at hg'
      · cases hg; cases hg'; exact Int.le_refl _
      · cases hg'
    · cases hg
end Go.Proofs.Ytjlhfemfmkdlhaa.Ab

/- RmB -/
namespace Go.Proofs.Ytjlhfemfmkdlhaa.Ab
open Go.RowKit

theorem drop_set {xs : List Cl} {k : Nat} (hk : k < xs.length) : setCells (clT.flat xs) (k * 3) (clT.flat (xs.drop (k + 1))) = clT.flat (dropC xs k ++ xs.drop (xs.length - 1)) := by
  have e1 : (clT.flat (xs.drop (k + 1))).length = (xs.length - (k + 1)) * 3 := by rw [flat_length]; simp; rfl
  unfold setCells dropC
  rw [e1, show k * 3 = k * clT.n from rfl, show (xs.length - (k + 1)) * 3 = (xs.length - (k + 1)) * clT.n from rfl, ← Nat.add_mul, flat_take, flat_drop, ← flat_append, ← flat_append]
  congr 3
  omega
theorem drop_last {xs : List Cl} (h : 0 < xs.length) : (xs.drop (xs.length - 1)).length = 1 := by simp; omega
theorem clear_set (ys : List Cl) (l : List Cl) (hl : l.length = 1) : setCells (clT.flat (ys ++ l)) (ys.length * 3) [I 0, I 0, I 0] = clT.flat (ys ++ [z3]) := by
  obtain ⟨a, rfl⟩ := List.length_eq_one_iff.1 hl
  unfold setCells
  have e : (clT.flat (ys ++ [a])).take (ys.length * 3) = clT.flat ys := by
    rw [show ys.length * 3 = ys.length * clT.n from rfl, flat_take]
    simp
  have e2 : (clT.flat (ys ++ [a])).drop (ys.length * 3 + [I 0, I 0, I 0].length) = [] := by
    rw [show ys.length * 3 + [I 0, I 0, I 0].length = (ys.length + 1) * clT.n by show _ = (ys.length + 1) * 3; simp; omega, flat_drop]
    simp [Ty.flat]
  rw [e, e2, List.append_nil, flat_append]
  rfl

theorem c_delete (xs : List Cl) (k : Nat) (hk : k < xs.length) (hl : xs.length ≤ 1000000000) : Meets Go.Proofs.Try.prog 86 [.sl 0 0 xs.length, I k, I ((k : Int) + 1)] [regOf clT 53 xs] (.sl 0 0 (dropC xs k).length) [regOf clT 53 (dropC xs k ++ [z3])] true := by
  have hdl := dropC_len hk
  refine meets_of [6] Go.Proofs.Try.func86 rfl rfl ?_
  simp only [Go.Proofs.Try.ntmps86, List.length_cons, List.length_nil, Nat.reduceAdd, Nat.reduceSub, List.replicate_succ, List.replicate_zero, List.cons_append, List.nil_append]
  repeat' first
    | refine aw_seq ?_
    | refine aw_region ?_
    | refine aw_lex [] ?_
    | (refine isA ?_; refine do_F rfl ?_)
    | (refine isL ?_; refine lex_F rfl (by kernel_rfl) rfl rfl ?_)
    | (refine isLg rfl ?_; refine lex_S rfl (by kernel_rfl) rfl rfl ?_)
    | (refine isAx (x := .tmp 8) ?_; refine do_R rfl (step_slice3 rfl rfl rfl rfl rfl (Int.natCast_nonneg k) (by omega) (by omega) (by omega) (by omega)) rfl ?_)
    | (refine isLx (x := .tmp 8) rfl ?_; refine lex_R rfl (by kernel_rfl) rfl (step_slice3 rfl rfl rfl rfl rfl (Int.natCast_nonneg k) (by omega) (by omega) (by omega) (by omega)) rfl ?_)
    | refine aops_nil ?_
    | refine lex_done _ rfl (by kernel_rfl) ?_
    | refine aw_ct rfl ?_
    | refine aw_cf rfl ?_
    | refine aw_block ?_
    | refine then_n ?_
    | refine aw_skip ?_
    | refine aw_exit ?_
    | refine then_x ?_
    | refine then_r ?_
    | refine block_x ?_
    | refine block_n ?_
    | refine block_r ?_
    | refine aw_ret ?_
  refine aw_cond rfl (fun h => by have := of_decide_eq_true h; omega) (fun _ => ?_)
  have hsrc : Src [regOf clT 53 xs] (.sl 0 (0 + ((k : Int) + 1).toNat) ((xs.length : Int).toNat - ((k : Int) + 1).toNat)) (xs.length - (k + 1)) (clT.flat (xs.drop (k + 1))) := by
    have e : ((k : Int) + 1).toNat = k + 1 := by omega
    have := Src.sl (H := [regOf clT 53 xs]) (h := 0) (off := k + 1) (m := xs.length - (k + 1)) (r := regOf clT 53 xs) rfl (Nat.zero_le _) (by show (k + 1 + (xs.length - (k + 1))) * 3 ≤ (clT.flat xs).length; rw [flat_length]; show _ ≤ xs.length * 3; omega)
    rw [e, Nat.zero_add, Int.toNat_natCast]
    have e2 : (((regOf clT 53 xs).cells.drop ((k + 1) * (regOf clT 53 xs).esz)).take ((xs.length - (k + 1)) * (regOf clT 53 xs).esz)) = clT.flat (xs.drop (k + 1)) := by
      show ((clT.flat xs).drop ((k + 1) * clT.n)).take ((xs.length - (k + 1)) * clT.n) = _
      rw [flat_drop, flat_take, List.take_of_length_le (by simp)]
    rw [e2] at this
    exact this
  have hsl : (clT.flat (xs.drop (k + 1))).length = (xs.length - (k + 1)) * 3 := by rw [flat_length]; simp; rfl
  repeat' first
    | refine aw_seq ?_
    | refine aw_region ?_
    | refine aw_lex [6] ?_
    | (refine isA ?_; refine do_F rfl ?_)
    | (refine isL ?_; refine lex_F rfl (by kernel_rfl) rfl rfl ?_)
    | (refine isLg rfl ?_; refine lex_S rfl (by kernel_rfl) rfl rfl ?_)
    | (refine isAx (x := .tmp 20) ?_; refine do_R rfl (step_slice_sl (h := (k : Int)) rfl rfl rfl (Nat.zero_le _) rfl (.no 0) (.yes _ rfl) (by omega) (Int.natCast_nonneg k) (by omega)) rfl ?_)
    | (refine isLx (x := .tmp 20) rfl ?_; refine lex_R rfl (by kernel_rfl) rfl (step_slice_sl (h := (k : Int)) rfl rfl rfl (Nat.zero_le _) rfl (.no 0) (.yes _ rfl) (by omega) (Int.natCast_nonneg k) (by omega)) rfl ?_)
    | (refine isAx (x := .tmp 23) ?_; refine do_R rfl (step_slice_sl (l := (k : Int) + 1) rfl rfl rfl (Nat.zero_le _) rfl (.yes _ rfl) (.no _) (by omega) (by omega) (by omega)) rfl ?_)
    | (refine isLx (x := .tmp 23) rfl ?_; refine lex_R rfl (by kernel_rfl) rfl (step_slice_sl (l := (k : Int) + 1) rfl rfl rfl (Nat.zero_le _) rfl (.yes _ rfl) (.no _) (by omega) (by omega) (by omega)) rfl ?_)
    | (refine isLp rfl ?_; refine lex_W rfl (by kernel_rfl) rfl (step_append_at (k := k) rfl rfl rfl rfl rfl rfl (by show (k + (xs.length - (k + 1))) * 3 ≤ (clT.flat xs).length; rw [flat_length]; show _ ≤ xs.length * 3; omega) hsrc hsl (flat_oneV _ _)) rfl ?_)
    | refine aops_nil ?_
    | refine lex_done _ rfl (by kernel_rfl) ?_
    | refine aw_ct rfl ?_
    | refine aw_cf rfl ?_
    | refine aw_block ?_
    | refine then_n ?_
    | refine aw_skip ?_
    | refine aw_exit ?_
    | refine then_x ?_
    | refine then_r ?_
    | refine block_x ?_
    | refine block_n ?_
    | refine block_r ?_
    | refine aw_ret ?_
  have hL : k + (xs.length - (k + 1)) = (dropC xs k).length := by omega
  have hlen : (setCells (clT.flat xs) (k * 3) (clT.flat (xs.drop (k + 1)))).length = xs.length * 3 := by rw [setCells_length (by rw [hsl, flat_length]; show _ ≤ xs.length * 3; omega), flat_length]; rfl
  have hfin : setCells (setCells (clT.flat xs) (k * 3) (clT.flat (xs.drop (k + 1)))) ((0 + (((k + (xs.length - (k + 1)) : Nat) : Int)).toNat) * 3) (List.replicate ((xs.length : Int).toNat - ((k + (xs.length - (k + 1)) : Nat) : Int).toNat) [I 0, I 0, I 0]).flatten = clT.flat (dropC xs k ++ [z3]) := by
    rw [drop_set hk, Int.toNat_natCast, Int.toNat_natCast, hL, Nat.zero_add, show xs.length - (dropC xs k).length = 1 by omega]
    exact clear_set (dropC xs k) (xs.drop (xs.length - 1)) (drop_last (by omega))
  repeat' first
    | refine aw_seq ?_
    | refine aw_region ?_
    | refine aw_lex [] ?_
    | (refine isA ?_; refine do_F rfl ?_)
    | (refine isL ?_; refine lex_F rfl (by kernel_rfl) rfl rfl ?_)
    | (refine isLg rfl ?_; refine lex_S rfl (by kernel_rfl) rfl rfl ?_)
    | (refine isAx ?_; refine do_R rfl (step_slice_room (l := ((k + (xs.length - (k + 1)) : Nat) : Int)) (h := (xs.length : Int)) rfl rfl rfl (Nat.zero_le _) rfl (.yes _ rfl) (.yes _ rfl) (by omega) (by omega) (by show (0 + (xs.length : Int).toNat) * 3 ≤ (setCells (clT.flat xs) (k * 3) (clT.flat (xs.drop (k + 1)))).length; rw [hlen]; omega) (Or.inr rfl)) rfl ?_)
    | (refine isLx rfl ?_; refine lex_R rfl (by kernel_rfl) rfl (step_slice_room (l := ((k + (xs.length - (k + 1)) : Nat) : Int)) (h := (xs.length : Int)) rfl rfl rfl (Nat.zero_le _) rfl (.yes _ rfl) (.yes _ rfl) (by omega) (by omega) (by show (0 + (xs.length : Int).toNat) * 3 ≤ (setCells (clT.flat xs) (k * 3) (clT.flat (xs.drop (k + 1)))).length; rw [hlen]; omega) (Or.inr rfl)) rfl ?_)
    | (refine isA ?_; refine do_R rfl (step_clear (zs := [.int .i64 0, .int .i64 0, .int .i64 0]) rfl rfl rfl rfl rfl rfl (by simp [Value.oneCell']) (by show ((0 + (((k + (xs.length - (k + 1)) : Nat) : Int)).toNat) + ((xs.length : Int).toNat - ((k + (xs.length - (k + 1)) : Nat) : Int).toNat)) * 3 ≤ (setCells (clT.flat xs) (k * 3) (clT.flat (xs.drop (k + 1)))).length; rw [hlen]; omega)) rfl ?_)
    | exact finM 1 [0] fix1 (by decide) rfl (le_sl rfl hL) (.cons rfl rfl rfl rfl (les_eq hfin (flat_noH _ _)) .nil)
    | refine aops_nil ?_
    | refine lex_done _ rfl (by kernel_rfl) ?_
    | refine aw_ct rfl ?_
    | refine aw_cf rfl ?_
    | refine aw_block ?_
    | refine then_n ?_
    | refine aw_skip ?_
    | refine aw_exit ?_
    | refine then_x ?_
    | refine then_r ?_
    | refine block_x ?_
    | refine block_n ?_
    | refine block_r ?_
    | refine aw_ret ?_

def insC (xs : List Cl) (i : Nat) (c : Cl) : List Cl := xs.take i ++ c :: xs.drop i
theorem insC_len {xs : List Cl} {i : Nat} {c : Cl} (h : i ≤ xs.length) : (insC xs i c).length = xs.length + 1 := by simp [insC]; omega
theorem ovl {o : Oper} {ρ : Operand → V} {H : List Reg} {x y : Operand} {h h' off off' k k' : Nat} {ats : Array TypeId} {r r' : Reg} (ho : o.op = .call { callee := .value (.func 96), args := #[x, y], argTypes := ats }) (hx : ρ x = .sl h off k) (hy : ρ y = .sl h' off' k') (hne : h ≠ h') (hr : H[h]? = some r) (hm : r.mode = 0) (hr' : H[h']? = some r') (hm' : r'.mode = 0) (hk : 0 < k ∨ off = 0) (hk' : 0 < k') (hes' : r'.esz = 3) : Step Go.Proofs.Try.prog o ρ H (B false) H :=
  step_overlaps (t := 22) (tr := 4) (e := 53) Go.Proofs.Try.func96 (by kernel_rfl) (by kernel_rfl) (by kernel_rfl) (by kernel_rfl) ho hx hy hne hr hm hr' hm' hk hk' hes'

theorem set_last (xs : List Cl) (z c : Cl) : setCells (clT.flat (xs ++ [z])) (xs.length * 3) (clT.flat [c]) = clT.flat (insC xs xs.length c) := by
  rw [flat_single, show xs.length * 3 = xs.length * clT.n from rfl, flat_set (t := clT) (xs := xs ++ [z]) (i := xs.length) (x := c) (by simp)]
  simp [insC]
theorem shift1 {xs : List Cl} {z : Cl} {i : Nat} (h : i < xs.length) : setCells (clT.flat (xs ++ [z])) ((i + 1) * 3) ((clT.flat ((xs ++ [z]).drop i)).take ((xs.length - i) * 3)) = clT.flat (xs.take (i + 1) ++ xs.drop i) := by
  have e : (clT.flat ((xs ++ [z]).drop i)).take ((xs.length - i) * 3) = clT.flat (xs.drop i) := by
    rw [show (xs.length - i) * 3 = (xs.length - i) * clT.n from rfl, flat_take, List.drop_append_of_le_length (by omega), List.take_append_of_le_length (by simp)]
    rw [List.take_of_length_le (by simp)]
  rw [e]
  unfold setCells
  have e1 : (clT.flat (xs.drop i)).length = (xs.length - i) * clT.n := by rw [flat_length]; simp
  have e2 : (xs ++ [z]).drop (i + 1 + (xs.length - i)) = [] := List.drop_eq_nil_of_le (by rw [List.length_append, List.length_singleton]; omega)
  rw [e1, show (i + 1) * 3 = (i + 1) * clT.n from rfl, ← Nat.add_mul, flat_take, flat_drop, e2, ← flat_append, ← flat_append, List.append_nil, List.take_append_of_le_length (by omega)]
theorem shift2 {xs : List Cl} {c : Cl} {i : Nat} (h : i < xs.length) : setCells (clT.flat (xs.take (i + 1) ++ xs.drop i)) (i * 3) ((clT.flat [c]).take (1 * 3)) = clT.flat (insC xs i c) := by
  have e : (clT.flat [c]).take (1 * 3) = clT.enc c := by rw [flat_single]; rfl
  rw [e, show i * 3 = i * clT.n from rfl, flat_set (t := clT) (xs := xs.take (i + 1) ++ xs.drop i) (i := i) (x := c) (by simp; omega)]
  congr 1
  rw [List.set_append_left _ _ (by simp; omega), List.take_add_one, List.getElem?_eq_getElem h]
  rw [Option.toList_some, List.set_append_right _ _ (by simp; omega)]
  have : i - (xs.take i).length = 0 := by simp; omega
  rw [this]
  simp [insC]
theorem c_insert (xs : List Cl) (z c : Cl) (i : Nat) (hi : i ≤ xs.length) (hl : xs.length ≤ 1000000000) : Meets Go.Proofs.Try.prog 87 [.sl 0 0 xs.length, I i, .sl 1 0 1] [regOf clT 53 (xs ++ [z]), regOf clT 53 [c]] (.sl 0 0 (xs.length + 1)) [regOf clT 53 (insC xs i c), regOf clT 53 [c]] true := by
  have hcl : (clT.flat (xs ++ [z])).length = (xs.length + 1) * 3 := by rw [flat_length]; simp; rfl
  have hlast := set_last xs z c
  refine meets_of [6] Go.Proofs.Try.func87 rfl rfl ?_
  simp only [Go.Proofs.Try.ntmps87, List.length_cons, List.length_nil, Nat.reduceAdd, Nat.reduceSub, List.replicate_succ, List.replicate_zero, List.cons_append, List.nil_append]
  repeat' first
    | refine aw_seq ?_
    | refine aw_region ?_
    | refine aw_lex [] ?_
    | (refine isA ?_; refine do_F rfl ?_)
    | (refine isL ?_; refine lex_F rfl (by kernel_rfl) rfl rfl ?_)
    | (refine isLg rfl ?_; refine lex_S rfl (by kernel_rfl) rfl rfl ?_)
    | (refine isAx (x := .tmp 10) ?_; refine do_R rfl (step_slice_sl (l := (i : Int)) rfl rfl rfl (Nat.zero_le _) rfl (.yes _ rfl) (.no _) (Int.natCast_nonneg i) (by omega) (by omega)) rfl ?_)
    | (refine isLx (x := .tmp 10) rfl ?_; refine lex_R rfl (by kernel_rfl) rfl (step_slice_sl (l := (i : Int)) rfl rfl rfl (Nat.zero_le _) rfl (.yes _ rfl) (.no _) (Int.natCast_nonneg i) (by omega) (by omega)) rfl ?_)
    | refine aops_nil ?_
    | refine lex_done _ rfl (by kernel_rfl) ?_
    | refine aw_ct rfl ?_
    | refine aw_cf rfl ?_
    | refine aw_block ?_
    | refine then_n ?_
    | refine aw_skip ?_
    | refine aw_exit ?_
    | refine then_x ?_
    | refine then_r ?_
    | refine block_x ?_
    | refine block_n ?_
    | refine block_r ?_
    | refine aw_ret ?_
  refine aw_cond rfl (fun h => ?_) (fun h => ?_)
  · have hi' : i = xs.length := by have := of_decide_eq_true h; omega
    subst hi'
    repeat' first
      | refine aw_seq ?_
      | refine aw_region ?_
      | refine aw_lex [] ?_
      | (refine isA ?_; refine do_F rfl ?_)
      | (refine isL ?_; refine lex_F rfl (by kernel_rfl) rfl rfl ?_)
      | (refine isLg rfl ?_; refine lex_S rfl (by kernel_rfl) rfl rfl ?_)
      | (refine isAp ?_; refine do_R rfl (step_append_at (k := xs.length) (m := 1) (src := clT.flat [c]) rfl rfl rfl rfl rfl rfl (by rw [hcl]; exact Nat.le_refl _) (src_of rfl rfl rfl rfl) rfl (flat_oneV _ _)) rfl ?_)
      | (refine isLp rfl ?_; refine lex_R rfl (by kernel_rfl) rfl (step_append_at (k := xs.length) (m := 1) (src := clT.flat [c]) rfl rfl rfl rfl rfl rfl (by rw [hcl]; exact Nat.le_refl _) (src_of rfl rfl rfl rfl) rfl (flat_oneV _ _)) rfl ?_)
      | exact finM 2 [0, 1] fix2 (by decide) rfl (le_sl rfl rfl) (.cons rfl rfl rfl rfl (les_eq hlast (flat_noH _ _)) (.cons rfl rfl rfl rfl (les_refl (flat_noH _ _)) .nil))
      | refine aops_nil ?_
      | refine lex_done _ rfl (by kernel_rfl) ?_
      | refine aw_ct rfl ?_
      | refine aw_cf rfl ?_
      | refine aw_block ?_
      | refine then_n ?_
      | refine aw_skip ?_
      | refine aw_exit ?_
      | refine then_x ?_
      | refine then_r ?_
      | refine block_x ?_
      | refine block_n ?_
      | refine block_r ?_
      | refine aw_ret ?_
  have hne : i < xs.length := by have := of_decide_eq_false h; omega
  have ew : IntKind.i64.wrap ((xs.length : Int) + ((1 : Nat) : Int)) = ((xs.length + 1 : Nat) : Int) := by rw [IntKind.wrap_i64]; omega
  have ei : IntKind.i64.wrap ((i : Int) + ((1 : Nat) : Int)) = ((i + 1 : Nat) : Int) := by rw [IntKind.wrap_i64]; omega
  repeat' first
    | refine aw_seq ?_
    | refine aw_region ?_
    | refine aw_lex [] ?_
    | (refine isA ?_; refine do_F rfl ?_)
    | (refine isL ?_; refine lex_F rfl (by kernel_rfl) rfl rfl ?_)
    | (refine isLg rfl ?_; refine lex_S rfl (by kernel_rfl) rfl rfl ?_)
    | (refine st_cap rfl rfl rfl (Or.inr rfl) rfl (Nat.zero_le _) rfl (fun c => rfl) (fun n hn1 _ _ => ?_))
    | refine aops_nil ?_
    | refine lex_done _ rfl (by kernel_rfl) ?_
    | refine aw_ct rfl ?_
    | refine aw_cf rfl ?_
    | refine aw_block ?_
    | refine then_n ?_
    | refine aw_skip ?_
    | refine aw_exit ?_
    | refine then_x ?_
    | refine then_r ?_
    | refine block_x ?_
    | refine block_n ?_
    | refine block_r ?_
    | refine aw_ret ?_
  refine aw_cond rfl (fun h => ?_) (fun _ => ?_)
  · have := of_decide_eq_true h
    rw [ew] at this
    have hn1 : (clT.flat (xs ++ [z])).length ≤ (0 + n) * 3 := hn1
    omega
  repeat' first
    | refine aw_seq ?_
    | refine aw_region ?_
    | refine aw_lex [8] ?_
    | (refine isA ?_; refine do_F rfl ?_)
    | (refine isL ?_; refine lex_F rfl (by kernel_rfl) rfl rfl ?_)
    | (refine isLg rfl ?_; refine lex_S rfl (by kernel_rfl) rfl rfl ?_)
    | (refine isAx (x := .tmp 56) ?_; refine do_R rfl (step_slice_room (l := 0) (h := ((xs.length + 1 : Nat) : Int)) rfl rfl rfl (Nat.zero_le _) rfl (.no 0) (.yes _ (by rw [← ew]; rfl)) (by omega) (by omega) (by show (0 + ((xs.length + 1 : Nat) : Int).toNat) * 3 ≤ (clT.flat (xs ++ [z])).length; rw [hcl]; omega) (Or.inr rfl)) rfl ?_)
    | (refine isLx (x := .tmp 56) rfl ?_; refine lex_R rfl (by kernel_rfl) rfl (step_slice_room (l := 0) (h := ((xs.length + 1 : Nat) : Int)) rfl rfl rfl (Nat.zero_le _) rfl (.no 0) (.yes _ (by rw [← ew]; rfl)) (by omega) (by omega) (by show (0 + ((xs.length + 1 : Nat) : Int).toNat) * 3 ≤ (clT.flat (xs ++ [z])).length; rw [hcl]; omega) (Or.inr rfl)) rfl ?_)
    | (refine isAx (x := .tmp 62) ?_; refine do_R rfl (step_slice_sl (l := ((i + 1 : Nat) : Int)) (h := ((xs.length + 1 : Nat) : Int)) rfl rfl rfl (Nat.zero_le _) rfl (.yes _ (by rw [← ei]; rfl)) (.no _) (by omega) (by omega) (by omega)) rfl ?_)
    | (refine isLx (x := .tmp 62) rfl ?_; refine lex_R rfl (by kernel_rfl) rfl (step_slice_sl (l := ((i + 1 : Nat) : Int)) (h := ((xs.length + 1 : Nat) : Int)) rfl rfl rfl (Nat.zero_le _) rfl (.yes _ (by rw [← ei]; rfl)) (.no _) (by omega) (by omega) (by omega)) rfl ?_)
    | (refine isAc 96 ?_; refine do_R rfl (ovl rfl rfl rfl (by decide) rfl rfl rfl rfl (Or.inr rfl) (by show 0 < ((xs.length + 1 : Nat) : Int).toNat - ((i + 1 : Nat) : Int).toNat; omega) rfl) rfl ?_)
    | (refine isLc 96 rfl ?_; refine lex_R rfl (by kernel_rfl) rfl (ovl rfl rfl rfl (by decide) rfl rfl rfl rfl (Or.inr rfl) (by show 0 < ((xs.length + 1 : Nat) : Int).toNat - ((i + 1 : Nat) : Int).toNat; omega) rfl) rfl ?_)
    | refine aops_nil ?_
    | refine lex_done _ rfl (by kernel_rfl) ?_
    | refine aw_ct rfl ?_
    | refine aw_cf rfl ?_
    | refine aw_block ?_
    | refine then_n ?_
    | refine aw_skip ?_
    | refine aw_exit ?_
    | refine then_x ?_
    | refine then_r ?_
    | refine block_x ?_
    | refine block_n ?_
    | refine block_r ?_
    | refine aw_ret ?_
  have hs0 : Src [regOf clT 53 (xs ++ [z]), regOf clT 53 [c]] (.sl 0 (0 + (i : Int).toNat) (((xs.length + 1 : Nat) : Int).toNat - (i : Int).toNat)) (xs.length + 1 - i) (clT.flat ((xs ++ [z]).drop i)) := by
    have := Src.sl (H := [regOf clT 53 (xs ++ [z]), regOf clT 53 [c]]) (h := 0) (off := i) (m := xs.length + 1 - i) (r := regOf clT 53 (xs ++ [z])) rfl (Nat.zero_le _) (by show (i + (xs.length + 1 - i)) * 3 ≤ (clT.flat (xs ++ [z])).length; rw [hcl]; omega)
    rw [Nat.zero_add, Int.toNat_natCast, Int.toNat_natCast]
    have e2 : (((regOf clT 53 (xs ++ [z])).cells.drop (i * (regOf clT 53 (xs ++ [z])).esz)).take ((xs.length + 1 - i) * (regOf clT 53 (xs ++ [z])).esz)) = clT.flat ((xs ++ [z]).drop i) := by
      show ((clT.flat (xs ++ [z])).drop (i * clT.n)).take ((xs.length + 1 - i) * clT.n) = _
      rw [flat_drop, flat_take, List.take_of_length_le (by simp)]
    rw [e2] at this
    exact this
  have hs0l : (clT.flat ((xs ++ [z]).drop i)).length = (xs.length + 1 - i) * 3 := by rw [flat_length]; simp; rfl
  have hs1 : setCells (setCells (clT.flat (xs ++ [z])) ((0 + ((i + 1 : Nat) : Int).toNat) * 3) ((clT.flat ((xs ++ [z]).drop i)).take ((xs.length - i) * 3))) ((0 + (i : Int).toNat) * 3) ((clT.flat [c]).take (1 * 3)) = clT.flat (insC xs i c) := by
    rw [Nat.zero_add, Nat.zero_add, Int.toNat_natCast, Int.toNat_natCast, shift1 hne, shift2 hne]
  have hs1l : (setCells (clT.flat (xs ++ [z])) ((0 + ((i + 1 : Nat) : Int).toNat) * 3) ((clT.flat ((xs ++ [z]).drop i)).take ((xs.length - i) * 3))).length = (xs.length + 1) * 3 := by
    rw [Nat.zero_add, Int.toNat_natCast, shift1 hne, flat_length]
    show (xs.take (i + 1) ++ xs.drop i).length * 3 = _
    simp
    omega
  repeat' first
    | refine aw_seq ?_
    | refine aw_region ?_
    | refine aw_lex [8] ?_
    | (refine isA ?_; refine do_F rfl ?_)
    | (refine isL ?_; refine lex_F rfl (by kernel_rfl) rfl rfl ?_)
    | (refine isLg rfl ?_; refine lex_S rfl (by kernel_rfl) rfl rfl ?_)
    | (refine isAx (x := .tmp 69) ?_; refine do_R rfl (step_slice_sl (l := ((i + 1 : Nat) : Int)) (h := ((xs.length + 1 : Nat) : Int)) rfl rfl rfl (Nat.zero_le _) rfl (.yes _ (by rw [← ei]; rfl)) (.no _) (by omega) (by omega) (by omega)) rfl ?_)
    | (refine isLx (x := .tmp 69) rfl ?_; refine lex_R rfl (by kernel_rfl) rfl (step_slice_sl (l := ((i + 1 : Nat) : Int)) (h := ((xs.length + 1 : Nat) : Int)) rfl rfl rfl (Nat.zero_le _) rfl (.yes _ (by rw [← ei]; rfl)) (.no _) (by omega) (by omega) (by omega)) rfl ?_)
    | (refine isAx ?_; refine do_R rfl (step_slice_sl (l := (i : Int)) (h := ((xs.length + 1 : Nat) : Int)) rfl rfl rfl (Nat.zero_le _) rfl (.yes _ rfl) (.no _) (by omega) (by omega) (by omega)) rfl ?_)
    | (refine isLx rfl ?_; refine lex_R rfl (by kernel_rfl) rfl (step_slice_sl (l := (i : Int)) (h := ((xs.length + 1 : Nat) : Int)) rfl rfl rfl (Nat.zero_le _) rfl (.yes _ rfl) (.no _) (by omega) (by omega) (by omega)) rfl ?_)
    | (refine isL ?_; refine lex_W rfl (by kernel_rfl) rfl (step_copy (p := xs.length - i) rfl rfl rfl rfl rfl (by show 0 < ((xs.length + 1 : Nat) : Int).toNat - ((i + 1 : Nat) : Int).toNat; omega) (by show ((0 + ((i + 1 : Nat) : Int).toNat) + (((xs.length + 1 : Nat) : Int).toNat - ((i + 1 : Nat) : Int).toNat)) * 3 ≤ (clT.flat (xs ++ [z])).length; rw [hcl]; omega) hs0 hs0l (by show _ = min _ _; rw [Int.toNat_natCast, Int.toNat_natCast]; omega) (flat_oneV _ _)) rfl ?_)
    | (refine isA ?_; refine do_R rfl (step_copy (p := 1) rfl rfl rfl rfl rfl (by show 0 < ((xs.length + 1 : Nat) : Int).toNat - (i : Int).toNat; omega) (by show ((0 + (i : Int).toNat) + (((xs.length + 1 : Nat) : Int).toNat - (i : Int).toNat)) * 3 ≤ (setCells (clT.flat (xs ++ [z])) ((0 + ((i + 1 : Nat) : Int).toNat) * 3) ((clT.flat ((xs ++ [z]).drop i)).take ((xs.length - i) * 3))).length; rw [hs1l]; omega) (src_of (cs := clT.flat [c]) rfl rfl rfl rfl) rfl (by show _ = min _ _; rw [Int.toNat_natCast, Int.toNat_natCast]; omega) (flat_oneV clT [c])) rfl ?_)
    | exact finM 2 [0, 1] fix2 (by decide) rfl (le_sl rfl rfl) (.cons rfl rfl rfl rfl (les_eq hs1 (flat_noH _ _)) (.cons rfl rfl rfl rfl (les_refl (flat_noH _ _)) .nil))
    | refine aops_nil ?_
    | refine lex_done _ rfl (by kernel_rfl) ?_
    | refine aw_ct rfl ?_
    | refine aw_cf rfl ?_
    | refine aw_block ?_
    | refine then_n ?_
    | refine aw_skip ?_
    | refine aw_exit ?_
    | refine then_x ?_
    | refine then_r ?_
    | refine block_x ?_
    | refine block_n ?_
    | refine block_r ?_
    | refine aw_ret ?_
end Go.Proofs.Ytjlhfemfmkdlhaa.Ab

/- RmC -/
namespace Go.Proofs.Ytjlhfemfmkdlhaa.Ab
open Go.RowKit

theorem take_l (xs : List Cl) (k : Nat) : ((clT.flat xs).drop (0 * 3)).take ((k - 0) * 3) = clT.flat (xs.take k) := by
  rw [Nat.zero_mul, List.drop_zero, Nat.sub_zero, show k * 3 = k * clT.n from rfl, flat_take]
theorem drop_l (xs : List Cl) (k : Nat) : ((clT.flat xs).drop (k * 3)).take ((xs.length - k) * 3) = clT.flat (xs.drop k) := by
  rw [show k * 3 = k * clT.n from rfl, flat_drop, show (xs.length - k) * 3 = (xs.length - k) * clT.n from rfl, flat_take, List.take_of_length_le (by simp)]
theorem st_takeL {o : Oper} {ρ : Operand → V} {H : List Reg} {x y : Operand} {xs : List Cl} {k : Nat} {kk : IntKind} (ho : o.op = .slice 22 x none (some y) none) (hx : ρ x = clL xs) (hy : ρ y = .k (.int kk k)) (hk : k ≤ xs.length) : Step Go.Proofs.Try.prog o ρ H (clL (xs.take k)) H := by
  have := step_slice_lst (P := Go.Proofs.Try.prog) (o := o) (ρ := ρ) (H := H) (l := 0) (h := k) ho hx (.no 0) (.yes _ hy) (flat_length clT xs) (by omega) (by omega) (by omega)
  rw [Int.toNat_natCast, show Int.toNat 0 = 0 from rfl] at this
  rw [show clL (xs.take k) = .lst (k - 0) (((clT.flat xs).drop (0 * 3)).take ((k - 0) * 3)) by rw [take_l]; simp [lstOf]; omega]
  exact this
theorem st_dropL {o : Oper} {ρ : Operand → V} {H : List Reg} {x y : Operand} {xs : List Cl} {k : Nat} {j : Int} {kk : IntKind} (ho : o.op = .slice 22 x (some y) none none) (hx : ρ x = clL xs) (hy : ρ y = .k (.int kk j)) (hj : j = (k : Int)) (hk : k ≤ xs.length) : Step Go.Proofs.Try.prog o ρ H (clL (xs.drop k)) H := by
  subst hj
  have := step_slice_lst (P := Go.Proofs.Try.prog) (o := o) (ρ := ρ) (H := H) (l := k) (h := xs.length) ho hx (.yes _ hy) (.no _) (flat_length clT xs) (by omega) (by omega) (by omega)
  rw [Int.toNat_natCast, Int.toNat_natCast] at this
  rw [show clL (xs.drop k) = .lst (xs.length - k) (((clT.flat xs).drop (k * 3)).take ((xs.length - k) * 3)) by rw [drop_l]; simp [lstOf]]
  exact this

theorem src_of2 {K : List Reg} {h : Nat} {e : TypeId} {c : List V} {xs : List Cl} (hr : K[h]? = some ⟨e, 3, c, 0⟩) (hc : c = clT.flat xs) : Src K (.sl h 0 xs.length) xs.length (clT.flat xs) := by
  subst hc
  have := Src.sl (H := K) (h := h) (off := 0) (m := xs.length) (r := ⟨e, 3, clT.flat xs, 0⟩) hr (Nat.zero_le _) (by show (0 + xs.length) * 3 ≤ _; rw [flat_length]; show _ ≤ xs.length * 3; omega)
  have e2 : ((clT.flat xs).drop (0 * 3)).take (xs.length * 3) = clT.flat xs := by rw [Nat.zero_mul, List.drop_zero, List.take_of_length_le]; rw [flat_length]; exact Nat.le_refl _
  rw [show (((⟨e, 3, clT.flat xs, 0⟩ : Reg).cells.drop (0 * (⟨e, 3, clT.flat xs, 0⟩ : Reg).esz)).take (xs.length * (⟨e, 3, clT.flat xs, 0⟩ : Reg).esz)) = clT.flat xs from e2] at this
  exact this
theorem c_drop (xs : List Cl) (k : Nat) (hk : k < xs.length) (hl : xs.length ≤ 1000000000) : Meets Go.Proofs.Try.prog 84 [clL xs, I k] [] (.sl 0 0 (dropC xs k).length) [regOf clT 53 (dropC xs k)] false := by
  have ek : IntKind.i64.wrap ((k : Int) + 1) = ((k + 1 : Nat) : Int) := by rw [IntKind.wrap_i64]; omega
  refine meets_of [4] Go.Proofs.Try.func84 rfl rfl ?_
  simp only [Go.Proofs.Try.ntmps84, List.length_cons, List.length_nil, Nat.reduceAdd, Nat.reduceSub, List.replicate_succ, List.replicate_zero, List.cons_append, List.nil_append]
  repeat' first
    | refine aw_seq ?_
    | refine aw_region ?_
    | (refine isA ?_; refine do_F rfl ?_)
    | (refine isL ?_; refine lex_F rfl (by kernel_rfl) rfl rfl ?_)
    | (refine isLg rfl ?_; refine lex_S rfl (by kernel_rfl) rfl rfl ?_)
    | refine aops_nil ?_
    | refine lex_done _ rfl (by kernel_rfl) ?_
    | refine aw_ct rfl ?_
    | refine aw_cf rfl ?_
    | refine aw_block ?_
    | refine then_n ?_
    | refine aw_skip ?_
    | refine aw_exit ?_
    | refine then_x ?_
    | refine then_r ?_
    | refine block_x ?_
    | refine block_n ?_
    | refine block_r ?_
    | refine aw_ret ?_
  refine aw_per [0, 4, 9] 11 rfl ?_
  refine per_P 1 rfl (by kernel_rfl) rfl (fun _ => rfl) rfl ?_
  refine per_P 2 rfl (by kernel_rfl) rfl (fun _ => rfl) rfl ?_
  refine per_A 3 rfl (by kernel_rfl) rfl (fun _ => st_takeL (k := k) rfl rfl rfl (by omega)) rfl ?_
  refine per_P 5 rfl (by kernel_rfl) rfl (fun _ => rfl) rfl ?_
  refine per_P 6 rfl (by kernel_rfl) rfl (fun _ => rfl) rfl ?_
  refine per_P 7 rfl (by kernel_rfl) rfl (fun _ => rfl) rfl ?_
  refine per_A 8 rfl (by kernel_rfl) rfl (fun _ => st_dropL (k := k + 1) rfl rfl rfl ek (by omega)) rfl ?_
  refine per_WF 0 rfl (by kernel_rfl) rfl rfl rfl rfl ?_
  refine per_W 4 rfl (by kernel_rfl) rfl rfl (ap_l (t := clT) (xs := []) (ys := xs.take k) rfl rfl rfl rfl (.lst _ _) (by simp; omega) rfl) rfl ?_
  refine per_W 9 rfl (by kernel_rfl) rfl rfl (ap_l (t := clT) (xs := [] ++ xs.take k) (ys := xs.drop (k + 1)) rfl rfl rfl rfl (.lst _ _) (by simp; omega) rfl) rfl ?_
  refine per_P 10 rfl (by kernel_rfl) rfl (fun _ => rfl) rfl ?_
  refine per_done (by kernel_rfl) ?_
  repeat' first
    | refine aw_seq ?_
    | refine aw_region ?_
    | refine aw_lex [] ?_
    | (refine isA ?_; refine do_F rfl ?_)
    | (refine isL ?_; refine lex_F rfl (by kernel_rfl) rfl rfl ?_)
    | (refine isLg rfl ?_; refine lex_S rfl (by kernel_rfl) rfl rfl ?_)
    | exact finL (ty := clT) rfl rfl rfl rfl rfl rfl (flat_cl _)
    | refine aops_nil ?_
    | refine lex_done _ rfl (by kernel_rfl) ?_
    | refine aw_ct rfl ?_
    | refine aw_cf rfl ?_
    | refine aw_block ?_
    | refine then_n ?_
    | refine aw_skip ?_
    | refine aw_exit ?_
    | refine then_x ?_
    | refine then_r ?_
    | refine block_x ?_
    | refine block_n ?_
    | refine block_r ?_
    | refine aw_ret ?_

theorem posC_step {xs : List Cl} {c : Cl} {j : Nat} (hj : j ≤ posC xs c) {z : Cl} (hz : xs[j]? = some z) : (z.a < c.a ↔ j < posC xs c) := by
  constructor
  · intro h
    rcases Nat.lt_or_ge j (posC xs c) with h1 | h1
    · exact h1
    · obtain rfl : j = posC xs c := by omega
      exact absurd h (posC_at hz)
  · exact fun h => posC_lt h hz
theorem c_put (xs : List Cl) (c : Cl) (hl : xs.length ≤ 1000000000) : Meets Go.Proofs.Try.prog 85 [clL xs, .agg (clE c)] [] (.sl 0 0 (putC xs c).length) [regOf clT 53 (putC xs c)] false := by
  have hp := posC_le xs c
  refine meets_of [4] Go.Proofs.Try.func85 rfl rfl ?_
  simp only [Go.Proofs.Try.ntmps85, List.length_cons, List.length_nil, Nat.reduceAdd, Nat.reduceSub, List.replicate_succ, List.replicate_zero, List.cons_append, List.nil_append]
  repeat' first
    | refine aw_seq ?_
    | refine aw_region ?_
    | refine aw_lex [] ?_
    | (refine isA ?_; refine do_F rfl ?_)
    | (refine isL ?_; refine lex_F rfl (by kernel_rfl) rfl rfl ?_)
    | (refine isLg rfl ?_; refine lex_S rfl (by kernel_rfl) rfl rfl ?_)
    | refine aops_nil ?_
    | refine lex_done _ rfl (by kernel_rfl) ?_
    | refine aw_ct rfl ?_
    | refine aw_cf rfl ?_
    | refine aw_block ?_
    | refine then_n ?_
    | refine aw_skip ?_
    | refine aw_exit ?_
    | refine then_x ?_
    | refine then_r ?_
    | refine block_x ?_
    | refine block_n ?_
    | refine block_r ?_
    | refine aw_ret ?_
  refine aw_loop (α := { j : Nat // j ≤ posC xs c }) (fun j => ⟨[clL xs, .any, .any, .ptr 0 0, .any, I j.1, .any, .any, .any, .any, .any, .any, .any, .any, .any, .any, .any, .any, .any, .any, .any, .any, .any, .any, .any, .any, .any, .any, .any, .any, .any, .any, .any, .any, .any, .any], [⟨53, 3, clE c, 0⟩], 0⟩) (fun j => posC xs c - j.1) ⟨0, Nat.zero_le _⟩ ?_ ?_
  · exact sub0 [0] rfl rfl (by decide) (.cons rfl rfl rfl rfl (les_refl' rfl) .nil) (by repeat' first | exact les_nil | refine les_cons ?_ ?_ | exact le_any | exact le_refl rfl | exact le_sl rfl rfl | exact le_ptr rfl)
  · rintro ⟨j, hj⟩
    repeat' first
      | refine aw_seq ?_
      | refine aw_region ?_
      | refine aw_lex [] ?_
      | (refine isA ?_; refine do_F rfl ?_)
      | (refine isL ?_; refine lex_F rfl (by kernel_rfl) rfl rfl ?_)
      | (refine isLg rfl ?_; refine lex_S rfl (by kernel_rfl) rfl rfl ?_)
      | refine aops_nil ?_
      | refine lex_done _ rfl (by kernel_rfl) ?_
      | refine aw_ct rfl ?_
      | refine aw_cf rfl ?_
      | refine aw_block ?_
      | refine then_n ?_
      | refine aw_skip ?_
      | refine aw_exit ?_
      | refine then_x ?_
      | refine then_r ?_
      | refine block_x ?_
      | refine block_n ?_
      | refine block_r ?_
      | refine aw_ret ?_
    refine lex_br rfl rfl rfl rfl (fun h1 => ?_) (fun h1 => ?_)
    · have hlt : j < xs.length := by have := of_decide_eq_true h1; simp only at this; omega
      obtain ⟨z, hz⟩ : ∃ z, xs[j]? = some z := ⟨_, List.getElem?_eq_getElem hlt⟩
      have hz2 := posC_step hj hz
      repeat' first
        | refine aw_seq ?_
        | refine aw_region ?_
        | refine aw_lex [] ?_
        | (refine isA ?_; refine do_F rfl ?_)
        | (refine isL ?_; refine lex_F rfl (by kernel_rfl) rfl rfl ?_)
        | (refine isLg rfl ?_; refine lex_S rfl (by kernel_rfl) rfl rfl ?_)
        | (refine isAi ?_; refine do_R rfl (ia_l (t := clT) (z := z) rfl rfl rfl rfl (Int.natCast_nonneg j) hz) rfl ?_)
        | (refine isLi rfl ?_; refine lex_R rfl (by kernel_rfl) rfl (ia_l (t := clT) (z := z) rfl rfl rfl rfl (Int.natCast_nonneg j) hz) rfl ?_)
        | refine aops_nil ?_
        | refine lex_done _ rfl (by kernel_rfl) ?_
        | refine aw_ct rfl ?_
        | refine aw_cf rfl ?_
        | refine aw_block ?_
        | refine then_n ?_
        | refine aw_skip ?_
        | refine aw_exit ?_
        | refine then_x ?_
        | refine then_r ?_
        | refine block_x ?_
        | refine block_n ?_
        | refine block_r ?_
        | refine aw_ret ?_
      refine aw_cond rfl (fun h2 => ?_) (fun h2 => ?_)
      · have h3 := hz2.1 (of_decide_eq_true h2)
        repeat' first
          | refine aw_seq ?_
          | refine aw_region ?_
          | refine aw_lex [] ?_
          | (refine isA ?_; refine do_F rfl ?_)
          | (refine isL ?_; refine lex_F rfl (by kernel_rfl) rfl rfl ?_)
          | (refine isLg rfl ?_; refine lex_S rfl (by kernel_rfl) rfl rfl ?_)
          | refine aops_nil ?_
          | refine lex_done _ rfl (by kernel_rfl) ?_
          | refine aw_ct rfl ?_
          | refine aw_cf rfl ?_
          | refine aw_block ?_
          | refine then_n ?_
          | refine aw_skip ?_
          | refine aw_exit ?_
          | refine then_x ?_
          | refine then_r ?_
          | refine block_x ?_
          | refine block_n ?_
          | refine block_r ?_
          | refine aw_ret ?_
        refine ⟨⟨j + 1, h3⟩, by simp only; omega, ?_⟩
        exact sub0 [0] rfl rfl (by decide) (.cons rfl rfl rfl rfl (les_refl' rfl) .nil) (by repeat' first | exact les_nil | refine les_cons ?_ ?_ | exact le_any | exact le_refl rfl | exact le_ptr rfl | exact le_i hlt (by omega))
      · have h3 : j = posC xs c := by have := of_decide_eq_false h2; have := mt hz2.2 this; omega
        subst h3
        repeat' first
          | refine aw_seq ?_
          | refine aw_region ?_
          | (refine isA ?_; refine do_F rfl ?_)
          | (refine isL ?_; refine lex_F rfl (by kernel_rfl) rfl rfl ?_)
          | (refine isLg rfl ?_; refine lex_S rfl (by kernel_rfl) rfl rfl ?_)
          | refine aops_nil ?_
          | refine lex_done _ rfl (by kernel_rfl) ?_
          | refine aw_ct rfl ?_
          | refine aw_cf rfl ?_
          | refine aw_block ?_
          | refine then_n ?_
          | refine aw_skip ?_
          | refine aw_exit ?_
          | refine then_x ?_
          | refine then_r ?_
          | refine block_x ?_
          | refine block_n ?_
          | refine block_r ?_
          | refine aw_ret ?_
        refine aw_per [1, 5] 7 rfl ?_
        refine per_P 2 rfl (by kernel_rfl) rfl (fun _ => rfl) rfl ?_
        refine per_P 3 rfl (by kernel_rfl) rfl (fun _ => rfl) rfl ?_
        refine per_A 4 rfl (by kernel_rfl) rfl (fun _ => st_dropL (k := posC xs c) rfl rfl rfl rfl hp) rfl ?_
        refine per_R 0 rfl (by kernel_rfl) rfl (rd_ag (v := .agg (clE c)) rfl rfl rfl rfl rfl rfl) rfl ?_
        refine per_WF 1 rfl (by kernel_rfl) rfl rfl rfl rfl ?_
        refine per_W 5 rfl (by kernel_rfl) rfl rfl (ap_l (t := clT) (xs := [c]) (ys := xs.drop (posC xs c)) rfl rfl rfl rfl (.lst _ _) (by simp; omega) rfl) rfl ?_
        refine per_P 6 rfl (by kernel_rfl) rfl (fun _ => rfl) rfl ?_
        refine per_done (by kernel_rfl) ?_
        repeat' first
          | refine aw_seq ?_
          | refine aw_region ?_
          | refine aw_lex [] ?_
          | (refine isA ?_; refine do_F rfl ?_)
          | (refine isL ?_; refine lex_F rfl (by kernel_rfl) rfl rfl ?_)
          | (refine isLg rfl ?_; refine lex_S rfl (by kernel_rfl) rfl rfl ?_)
          | (refine isAx ?_; refine do_R rfl (st_takeL (k := posC xs c) rfl rfl rfl hp) rfl ?_)
          | (refine isLx rfl ?_; refine lex_R rfl (by kernel_rfl) rfl (st_takeL (k := posC xs c) rfl rfl rfl hp) rfl ?_)
          | (refine isAp ?_; refine do_R rfl (ap_l (t := clT) (xs := []) (ys := xs.take (posC xs c)) rfl rfl rfl rfl (.lst _ _) (by simp; omega) rfl) rfl ?_)
          | (refine isLp rfl ?_; refine lex_R rfl (by kernel_rfl) rfl (ap_l (t := clT) (xs := []) (ys := xs.take (posC xs c)) rfl rfl rfl rfl (.lst _ _) (by simp; omega) rfl) rfl ?_)
          | (refine isAp ?_; refine do_R rfl (ap_l (t := clT) (xs := [] ++ xs.take (posC xs c)) (ys := [c] ++ xs.drop (posC xs c)) rfl rfl rfl rfl (src_of2 rfl rfl) (by simp; omega) rfl) rfl ?_)
          | (refine isLp rfl ?_; refine lex_R rfl (by kernel_rfl) rfl (ap_l (t := clT) (xs := [] ++ xs.take (posC xs c)) (ys := [c] ++ xs.drop (posC xs c)) rfl rfl rfl rfl (src_of2 rfl rfl) (by simp; omega) rfl) rfl ?_)
          | exact finL (ty := clT) rfl rfl rfl rfl rfl rfl (flat_cl _)
          | refine aops_nil ?_
          | refine lex_done _ rfl (by kernel_rfl) ?_
          | refine aw_ct rfl ?_
          | refine aw_cf rfl ?_
          | refine aw_block ?_
          | refine then_n ?_
          | refine aw_skip ?_
          | refine aw_exit ?_
          | refine then_x ?_
          | refine then_r ?_
          | refine block_x ?_
          | refine block_n ?_
          | refine block_r ?_
          | refine aw_ret ?_
    · have h3 : j = posC xs c := by have := of_decide_eq_false h1; simp only at this; omega
      subst h3
      repeat' first
        | refine aw_seq ?_
        | refine aw_region ?_
        | (refine isA ?_; refine do_F rfl ?_)
        | (refine isL ?_; refine lex_F rfl (by kernel_rfl) rfl rfl ?_)
        | (refine isLg rfl ?_; refine lex_S rfl (by kernel_rfl) rfl rfl ?_)
        | refine aops_nil ?_
        | refine lex_done _ rfl (by kernel_rfl) ?_
        | refine aw_ct rfl ?_
        | refine aw_cf rfl ?_
        | refine aw_block ?_
        | refine then_n ?_
        | refine aw_skip ?_
        | refine aw_exit ?_
        | refine then_x ?_
        | refine then_r ?_
        | refine block_x ?_
        | refine block_n ?_
        | refine block_r ?_
        | refine aw_ret ?_
      refine aw_per [1, 5] 7 rfl ?_
      refine per_P 2 rfl (by kernel_rfl) rfl (fun _ => rfl) rfl ?_
      refine per_P 3 rfl (by kernel_rfl) rfl (fun _ => rfl) rfl ?_
      refine per_A 4 rfl (by kernel_rfl) rfl (fun _ => st_dropL (k := posC xs c) rfl rfl rfl rfl hp) rfl ?_
      refine per_R 0 rfl (by kernel_rfl) rfl (rd_ag (v := .agg (clE c)) rfl rfl rfl rfl rfl rfl) rfl ?_
      refine per_WF 1 rfl (by kernel_rfl) rfl rfl rfl rfl ?_
      refine per_W 5 rfl (by kernel_rfl) rfl rfl (ap_l (t := clT) (xs := [c]) (ys := xs.drop (posC xs c)) rfl rfl rfl rfl (.lst _ _) (by simp; omega) rfl) rfl ?_
      refine per_P 6 rfl (by kernel_rfl) rfl (fun _ => rfl) rfl ?_
      refine per_done (by kernel_rfl) ?_
      repeat' first
        | refine aw_seq ?_
        | refine aw_region ?_
        | refine aw_lex [] ?_
        | (refine isA ?_; refine do_F rfl ?_)
        | (refine isL ?_; refine lex_F rfl (by kernel_rfl) rfl rfl ?_)
        | (refine isLg rfl ?_; refine lex_S rfl (by kernel_rfl) rfl rfl ?_)
        | (refine isAx ?_; refine do_R rfl (st_takeL (k := posC xs c) rfl rfl rfl hp) rfl ?_)
        | (refine isLx rfl ?_; refine lex_R rfl (by kernel_rfl) rfl (st_takeL (k := posC xs c) rfl rfl rfl hp) rfl ?_)
        | (refine isAp ?_; refine do_R rfl (ap_l (t := clT) (xs := []) (ys := xs.take (posC xs c)) rfl rfl rfl rfl (.lst _ _) (by simp; omega) rfl) rfl ?_)
        | (refine isLp rfl ?_; refine lex_R rfl (by kernel_rfl) rfl (ap_l (t := clT) (xs := []) (ys := xs.take (posC xs c)) rfl rfl rfl rfl (.lst _ _) (by simp; omega) rfl) rfl ?_)
        | (refine isAp ?_; refine do_R rfl (ap_l (t := clT) (xs := [] ++ xs.take (posC xs c)) (ys := [c] ++ xs.drop (posC xs c)) rfl rfl rfl rfl (src_of2 rfl rfl) (by simp; omega) rfl) rfl ?_)
        | (refine isLp rfl ?_; refine lex_R rfl (by kernel_rfl) rfl (ap_l (t := clT) (xs := [] ++ xs.take (posC xs c)) (ys := [c] ++ xs.drop (posC xs c)) rfl rfl rfl rfl (src_of2 rfl rfl) (by simp; omega) rfl) rfl ?_)
        | exact finL (ty := clT) rfl rfl rfl rfl rfl rfl (flat_cl _)
        | refine aops_nil ?_
        | refine lex_done _ rfl (by kernel_rfl) ?_
        | refine aw_ct rfl ?_
        | refine aw_cf rfl ?_
        | refine aw_block ?_
        | refine then_n ?_
        | refine aw_skip ?_
        | refine aw_exit ?_
        | refine then_x ?_
        | refine then_r ?_
        | refine block_x ?_
        | refine block_n ?_
        | refine block_r ?_
        | refine aw_ret ?_

theorem rmK {b : Br} {id : Int} : (rmV b id).1.act.length ≤ b.act.length + 1 ∧ (rmV b id).1.wait.length ≤ b.wait.length + 1 := rmV_len b id
theorem c_srm (b : Br) (id : Int) (h1 : b.act.length ≤ 1000000000) (h2 : b.wait.length ≤ 1000000000) : Meets Go.Proofs.Try.prog 40 [.agg (brE b), I id] [] (srR (rmV b id)) (brK (rmV b id).1.act (rmV b id).1.wait) false := by
  refine meets_ofCT 4 24 [5] Go.Proofs.Try.func40 rfl rfl rfl ?_
  simp only [Go.Proofs.Try.ntmps40, List.length_cons, List.length_nil, Nat.reduceAdd, Nat.reduceSub, List.replicate_succ, List.replicate_zero, List.cons_append, List.nil_append]
  repeat' first
    | refine aw_seq ?_
    | refine aw_region ?_
    | refine aw_lex [] ?_
    | (refine isA ?_; refine do_F rfl ?_)
    | (refine isL ?_; refine lex_F rfl (by kernel_rfl) rfl rfl ?_)
    | (refine isLg rfl ?_; refine lex_S rfl (by kernel_rfl) rfl rfl ?_)
    | (refine isAc 79 ?_; refine do_R rfl (st_callK rfl (c_copy _ h1 h2) (.cons (.same rfl) .nil) (brK_noH _ _) rfl rfl) rfl ?_)
    | (refine isLc 79 rfl ?_; refine lex_R rfl (by kernel_rfl) rfl (st_callK rfl (c_copy _ h1 h2) (.cons (.same rfl) .nil) (brK_noH _ _) rfl rfl) rfl ?_)
    | (refine isAc 24 ?_; refine do_R rfl (st_call rfl (c_svalid _ h1 h2) (.cons (.same rfl) .nil) rfl) rfl ?_)
    | (refine isLc 24 rfl ?_; refine lex_R rfl (by kernel_rfl) rfl (st_call rfl (c_svalid _ h1 h2) (.cons (.same rfl) .nil) rfl) rfl ?_)
    | refine aops_nil ?_
    | refine lex_done _ rfl (by kernel_rfl) ?_
    | refine aw_ct rfl ?_
    | refine aw_cf rfl ?_
    | refine aw_block ?_
    | refine then_n ?_
    | refine aw_skip ?_
    | refine aw_exit ?_
    | refine then_x ?_
    | refine then_r ?_
    | refine block_x ?_
    | refine block_n ?_
    | refine block_r ?_
    | refine aw_ret ?_
  refine aw_cond rfl (fun k1 => ?_) (fun k1 => ?_)
  · have k1 : validB b = false := by simpa using k1
    repeat' first
      | refine aw_seq ?_
      | refine aw_region ?_
      | refine aw_lex [] ?_
      | (refine isA ?_; refine do_F rfl ?_)
      | (refine isL ?_; refine lex_F rfl (by kernel_rfl) rfl rfl ?_)
      | (refine isLg rfl ?_; refine lex_S rfl (by kernel_rfl) rfl rfl ?_)
      | exact (by rw [rm_no k1]; exact finMCTf [2, 3] (by decide) (cell_is rfl rfl rfl rfl rfl) (le_tup (les_cons (le_agg (les_cons (le_refl rfl) (les_cons (le_refl rfl) (les_cons (le_sl rfl rfl) (les_cons (le_sl rfl rfl) les_nil))))) (les_cons (le_refl rfl) les_nil))) (.cons rfl rfl rfl rfl (les_eq rfl (flat_noH _ _)) (.cons rfl rfl rfl rfl (les_eq rfl (flat_noH _ _)) .nil)) rfl (brK_flat _ _))
      | refine aops_nil ?_
      | refine lex_done _ rfl (by kernel_rfl) ?_
      | refine aw_ct rfl ?_
      | refine aw_cf rfl ?_
      | refine aw_block ?_
      | refine then_n ?_
      | refine aw_skip ?_
      | refine aw_exit ?_
      | refine then_x ?_
      | refine then_r ?_
      | refine block_x ?_
      | refine block_n ?_
      | refine block_r ?_
      | refine aw_ret ?_
  have k1 : validB b = true := by simpa using k1
  repeat' first
    | refine aw_seq ?_
    | refine aw_region ?_
    | refine aw_lex [] ?_
    | (refine isA ?_; refine do_F rfl ?_)
    | (refine isL ?_; refine lex_F rfl (by kernel_rfl) rfl rfl ?_)
    | (refine isLg rfl ?_; refine lex_S rfl (by kernel_rfl) rfl rfl ?_)
    | (refine isAc 78 ?_; refine do_R rfl (st_call rfl (c_at b.wait id h2) (.cons (.same rfl) (.cons (.same rfl) .nil)) rfl) rfl ?_)
    | (refine isLc 78 rfl ?_; refine lex_R rfl (by kernel_rfl) rfl (st_call rfl (c_at b.wait id h2) (.cons (.same rfl) (.cons (.same rfl) .nil)) rfl) rfl ?_)
    | refine aops_nil ?_
    | refine lex_done _ rfl (by kernel_rfl) ?_
    | refine aw_ct rfl ?_
    | refine aw_cf rfl ?_
    | refine aw_block ?_
    | refine then_n ?_
    | refine aw_skip ?_
    | refine aw_exit ?_
    | refine then_x ?_
    | refine then_r ?_
    | refine block_x ?_
    | refine block_n ?_
    | refine block_r ?_
    | refine aw_ret ?_
  refine aw_cond rfl (fun k2 => ?_) (fun k2 => ?_)
  · obtain ⟨z, _, hz, _⟩ := at_some k2
    have hlt := (List.getElem?_eq_some_iff.1 hz).1
    have e := Int.toNat_of_nonneg (of_decide_eq_true k2)
    have hr := rm_wait k1 k2
    generalize (idxC b.wait id).toNat = i at hlt e hz hr
    rw [← e]
    repeat' first
      | refine aw_seq ?_
      | refine aw_region ?_
      | refine aw_lex [] ?_
      | (refine isA ?_; refine do_F rfl ?_)
      | (refine isL ?_; refine lex_F rfl (by kernel_rfl) rfl rfl ?_)
      | (refine isLg rfl ?_; refine lex_S rfl (by kernel_rfl) rfl rfl ?_)
      | (refine isAc 84 ?_; refine do_R rfl (st_callK rfl (c_drop b.wait i hlt h2) (.cons (pur_l rfl rfl) (.cons (.same rfl) .nil)) (fun q hq => by simp at hq; subst hq; exact flat_noH _ _) rfl rfl) rfl ?_)
      | (refine isLc 84 rfl ?_; refine lex_R rfl (by kernel_rfl) rfl (st_callK rfl (c_drop b.wait i hlt h2) (.cons (pur_l rfl rfl) (.cons (.same rfl) .nil)) (fun q hq => by simp at hq; subst hq; exact flat_noH _ _) rfl rfl) rfl ?_)
      | exact (by rw [hr]; exact finMCTf [2, 5] (by decide) (cell_is rfl rfl rfl rfl rfl) (le_tup (les_cons (le_agg (les_cons (le_refl rfl) (les_cons (le_refl rfl) (les_cons (le_sl rfl rfl) (les_cons (le_sl rfl rfl) les_nil))))) (les_cons (le_refl rfl) les_nil))) (.cons rfl rfl rfl rfl (les_eq rfl (flat_noH _ _)) (.cons rfl rfl rfl rfl (les_eq rfl (flat_noH _ _)) .nil)) rfl (brK_flat _ _))
      | refine aops_nil ?_
      | refine lex_done _ rfl (by kernel_rfl) ?_
      | refine aw_ct rfl ?_
      | refine aw_cf rfl ?_
      | refine aw_block ?_
      | refine then_n ?_
      | refine aw_skip ?_
      | refine aw_exit ?_
      | refine then_x ?_
      | refine then_r ?_
      | refine block_x ?_
      | refine block_n ?_
      | refine block_r ?_
      | refine aw_ret ?_
  repeat' first
    | refine aw_seq ?_
    | refine aw_region ?_
    | refine aw_lex [] ?_
    | (refine isA ?_; refine do_F rfl ?_)
    | (refine isL ?_; refine lex_F rfl (by kernel_rfl) rfl rfl ?_)
    | (refine isLg rfl ?_; refine lex_S rfl (by kernel_rfl) rfl rfl ?_)
    | (refine isAc 78 ?_; refine do_R rfl (st_call rfl (c_at b.act id h1) (.cons (.same rfl) (.cons (.same rfl) .nil)) rfl) rfl ?_)
    | (refine isLc 78 rfl ?_; refine lex_R rfl (by kernel_rfl) rfl (st_call rfl (c_at b.act id h1) (.cons (.same rfl) (.cons (.same rfl) .nil)) rfl) rfl ?_)
    | refine aops_nil ?_
    | refine lex_done _ rfl (by kernel_rfl) ?_
    | refine aw_ct rfl ?_
    | refine aw_cf rfl ?_
    | refine aw_block ?_
    | refine then_n ?_
    | refine aw_skip ?_
    | refine aw_exit ?_
    | refine then_x ?_
    | refine then_r ?_
    | refine block_x ?_
    | refine block_n ?_
    | refine block_r ?_
    | refine aw_ret ?_
  refine aw_cond rfl (fun k3 => ?_) (fun k3 => ?_)
  · have k3' : decide (0 ≤ idxC b.act id) = false := by have := of_decide_eq_true k3; exact decide_eq_false (by omega)
    repeat' first
      | refine aw_seq ?_
      | refine aw_region ?_
      | refine aw_lex [] ?_
      | (refine isA ?_; refine do_F rfl ?_)
      | (refine isL ?_; refine lex_F rfl (by kernel_rfl) rfl rfl ?_)
      | (refine isLg rfl ?_; refine lex_S rfl (by kernel_rfl) rfl rfl ?_)
      | exact (by rw [rm_none k2 k3']; exact finMCTf [2, 3] (by decide) (cell_is rfl rfl rfl rfl rfl) (le_tup (les_cons (le_agg (les_cons (le_refl rfl) (les_cons (le_refl rfl) (les_cons (le_sl rfl rfl) (les_cons (le_sl rfl rfl) les_nil))))) (les_cons (le_refl rfl) les_nil))) (.cons rfl rfl rfl rfl (les_eq rfl (flat_noH _ _)) (.cons rfl rfl rfl rfl (les_eq rfl (flat_noH _ _)) .nil)) rfl (brK_flat _ _))
      | refine aops_nil ?_
      | refine lex_done _ rfl (by kernel_rfl) ?_
      | refine aw_ct rfl ?_
      | refine aw_cf rfl ?_
      | refine aw_block ?_
      | refine then_n ?_
      | refine aw_skip ?_
      | refine aw_exit ?_
      | refine then_x ?_
      | refine then_r ?_
      | refine block_x ?_
      | refine block_n ?_
      | refine block_r ?_
      | refine aw_ret ?_
  have k3' : decide (0 ≤ idxC b.act id) = true := by have := of_decide_eq_false k3; exact decide_eq_true (by omega)
  obtain ⟨z, _, hz, _⟩ := at_some k3'
  have hlt := (List.getElem?_eq_some_iff.1 hz).1
  have e := Int.toNat_of_nonneg (of_decide_eq_true k3')
  have hr0 := fun h3 => rm_act0 (id := id) k1 k2 k3' h3
  have hr1 := fun c h3 => rm_act1 (id := id) (c := c) k1 k2 k3' h3
  generalize (idxC b.act id).toNat = i at hlt e hz hr0 hr1
  rw [← e]
  have hdl := dropC_len hlt
  repeat' first
    | refine aw_seq ?_
    | refine aw_region ?_
    | refine aw_lex [] ?_
    | (refine isA ?_; refine do_F rfl ?_)
    | (refine isL ?_; refine lex_F rfl (by kernel_rfl) rfl rfl ?_)
    | (refine isLg rfl ?_; refine lex_S rfl (by kernel_rfl) rfl rfl ?_)
    | (refine isAc 84 ?_; refine do_R rfl (st_callK rfl (c_drop b.act i hlt h1) (.cons (pur_l rfl rfl) (.cons (.same rfl) .nil)) (fun q hq => by simp at hq; subst hq; exact flat_noH _ _) rfl rfl) rfl ?_)
    | (refine isLc 84 rfl ?_; refine lex_R rfl (by kernel_rfl) rfl (st_callK rfl (c_drop b.act i hlt h1) (.cons (pur_l rfl rfl) (.cons (.same rfl) .nil)) (fun q hq => by simp at hq; subst hq; exact flat_noH _ _) rfl rfl) rfl ?_)
    | refine aops_nil ?_
    | refine lex_done _ rfl (by kernel_rfl) ?_
    | refine aw_ct rfl ?_
    | refine aw_cf rfl ?_
    | refine aw_block ?_
    | refine then_n ?_
    | refine aw_skip ?_
    | refine aw_exit ?_
    | refine then_x ?_
    | refine then_r ?_
    | refine block_x ?_
    | refine block_n ?_
    | refine block_r ?_
    | refine aw_ret ?_
  refine aw_cond rfl (fun k4 => ?_) (fun k4 => ?_)
  rotate_left
  · have h0 : b.wait.length = 0 := by have := of_decide_eq_false k4; omega
    repeat' first
      | refine aw_seq ?_
      | refine aw_region ?_
      | refine aw_lex [] ?_
      | (refine isA ?_; refine do_F rfl ?_)
      | (refine isL ?_; refine lex_F rfl (by kernel_rfl) rfl rfl ?_)
      | (refine isLg rfl ?_; refine lex_S rfl (by kernel_rfl) rfl rfl ?_)
      | exact (by rw [hr0 h0]; exact finMCTf [5, 3] (by decide) (cell_is rfl rfl rfl rfl rfl) (le_tup (les_cons (le_agg (les_cons (le_refl rfl) (les_cons (le_refl rfl) (les_cons (le_sl rfl rfl) (les_cons (le_sl rfl rfl) les_nil))))) (les_cons (le_refl rfl) les_nil))) (.cons rfl rfl rfl rfl (les_eq rfl (flat_noH _ _)) (.cons rfl rfl rfl rfl (les_eq rfl (flat_noH _ _)) .nil)) rfl (brK_flat _ _))
      | refine aops_nil ?_
      | refine lex_done _ rfl (by kernel_rfl) ?_
      | refine aw_ct rfl ?_
      | refine aw_cf rfl ?_
      | refine aw_block ?_
      | refine then_n ?_
      | refine aw_skip ?_
      | refine aw_exit ?_
      | refine then_x ?_
      | refine then_r ?_
      | refine block_x ?_
      | refine block_n ?_
      | refine block_r ?_
      | refine aw_ret ?_
  have h0 : 0 < b.wait.length := by have := of_decide_eq_true k4; omega
  have hbl := bestC_lt h0
  obtain ⟨w, hw⟩ : ∃ w, b.wait[bestC b.wait]? = some w := ⟨_, List.getElem?_eq_getElem hbl⟩
  have hr := hr1 w hw
  repeat' first
    | refine aw_seq ?_
    | refine aw_region ?_
    | refine aw_lex [] ?_
    | (refine isA ?_; refine do_F rfl ?_)
    | (refine isL ?_; refine lex_F rfl (by kernel_rfl) rfl rfl ?_)
    | (refine isLg rfl ?_; refine lex_S rfl (by kernel_rfl) rfl rfl ?_)
    | refine aops_nil ?_
    | refine lex_done _ rfl (by kernel_rfl) ?_
    | refine aw_ct rfl ?_
    | refine aw_cf rfl ?_
    | refine aw_block ?_
    | refine then_n ?_
    | refine aw_skip ?_
    | refine aw_exit ?_
    | refine then_x ?_
    | refine then_r ?_
    | refine block_x ?_
    | refine block_n ?_
    | refine block_r ?_
    | refine aw_ret ?_
  refine aw_loop (α := { j : Nat // 1 ≤ j ∧ j ≤ b.wait.length }) (fun j => ⟨(.any :: .any :: .any :: .any :: (.ptr 0 0) :: .any :: (.ptr 1 0) :: .any :: (I (bestN b.wait j.1)) :: (I j.1) :: .any :: .any :: .any :: .any :: .any :: .any :: .any :: .any :: .any :: .any :: .any :: .any :: .any :: .any :: .any :: .any :: .any :: .any :: .any :: .any :: .any :: .any :: .any :: .any :: .any :: .any :: .any :: .any :: .any :: .any :: .any :: .any :: .any :: .any :: .any :: .any :: .any :: .any :: .any :: .any :: .any :: .any :: .any :: .any :: .any :: .any :: .any :: .any :: .any :: .any :: .any :: .any :: .any :: .any :: .any :: .any :: .any :: .any :: .any :: .any :: .any :: .any :: .any :: .any :: .any :: .any :: .any :: .any :: .any :: .any :: []), [⟨24, 4, [I 0, I 0, .k (.slice none 0 0), .k (.slice none 0 0)], 0⟩, ⟨24, 4, [I b.pool, I b.next, .sl 3 0 (dropC b.act i).length, .sl 2 0 b.wait.length], 0⟩, regOf clT 53 b.wait, regOf clT 53 (dropC b.act i)], 0⟩) (fun j => b.wait.length - j.1) ⟨1, Nat.le_refl 1, h0⟩ ?_ ?_
  · exact sub0 [1, 4, 3, 5] rfl rfl (by decide) (.cons rfl rfl rfl rfl (by repeat' first | exact les_nil | refine les_cons ?_ ?_ | exact le_any | exact le_refl rfl | exact le_sl rfl rfl | exact le_ptr rfl) (.cons rfl rfl rfl rfl (by repeat' first | exact les_nil | refine les_cons ?_ ?_ | exact le_any | exact le_refl rfl | exact le_sl rfl rfl | exact le_ptr rfl) (.cons rfl rfl rfl rfl (les_refl (flat_noH _ _)) (.cons rfl rfl rfl rfl (les_refl (flat_noH _ _)) .nil)))) (by repeat' first | exact les_nil | refine les_cons ?_ ?_ | exact le_any | exact le_refl rfl | exact le_sl rfl rfl | exact le_ptr rfl | exact le_k (congrArg _ (by rw [bestN_one]; rfl)))
  · rintro ⟨j, hj0, hj⟩
    have hbj := bestN_lt h0 j hj
    obtain ⟨d, hd⟩ : ∃ d, b.wait[bestN b.wait j]? = some d := ⟨_, List.getElem?_eq_getElem hbj⟩
    repeat' first
      | refine aw_seq ?_
      | refine aw_region ?_
      | refine aw_lex [] ?_
      | (refine isA ?_; refine do_F rfl ?_)
      | (refine isL ?_; refine lex_F rfl (by kernel_rfl) rfl rfl ?_)
      | (refine isLg rfl ?_; refine lex_S rfl (by kernel_rfl) rfl rfl ?_)
      | refine aops_nil ?_
      | refine lex_done _ rfl (by kernel_rfl) ?_
      | refine aw_ct rfl ?_
      | refine aw_cf rfl ?_
      | refine aw_block ?_
      | refine then_n ?_
      | refine aw_skip ?_
      | refine aw_exit ?_
      | refine then_x ?_
      | refine then_r ?_
      | refine block_x ?_
      | refine block_n ?_
      | refine block_r ?_
      | refine aw_ret ?_
    refine aw_cond rfl (fun h3 => ?_) (fun h3 => ?_)
    · have hlt : j < b.wait.length := by have := of_decide_eq_true h3; simp only at this; omega
      obtain ⟨c, hc⟩ : ∃ c, b.wait[j]? = some c := ⟨_, List.getElem?_eq_getElem hlt⟩
      repeat' first
        | refine aw_seq ?_
        | refine aw_region ?_
        | refine aw_lex [] ?_
        | (refine isA ?_; refine do_F rfl ?_)
        | (refine isL ?_; refine lex_F rfl (by kernel_rfl) rfl rfl ?_)
        | (refine isLg rfl ?_; refine lex_S rfl (by kernel_rfl) rfl rfl ?_)
        | (refine isAi (x := .tmp 52) ?_; refine do_R rfl (step_ia_sl (j := j) rfl rfl rfl (Nat.zero_le _) rfl rfl (Int.natCast_nonneg j) (by omega)) rfl ?_)
        | (refine isLi (x := .tmp 52) rfl ?_; refine lex_R rfl (by kernel_rfl) rfl (step_ia_sl (j := j) rfl rfl rfl (Nat.zero_le _) rfl rfl (Int.natCast_nonneg j) (by omega)) rfl ?_)
        | (refine isAi (x := .tmp 58) ?_; refine do_R rfl (step_ia_sl (j := bestN b.wait j) rfl rfl rfl (Nat.zero_le _) rfl rfl (Int.natCast_nonneg _) (by omega)) rfl ?_)
        | (refine isLi (x := .tmp 58) rfl ?_; refine lex_R rfl (by kernel_rfl) rfl (step_ia_sl (j := bestN b.wait j) rfl rfl rfl (Nat.zero_le _) rfl rfl (Int.natCast_nonneg _) (by omega)) rfl ?_)
        | (refine isAl (x := .tmp 55) ?_; refine do_R rfl (ld_f (T := clT) (i := 0 + (j : Int).toNat) (off := 2) (z := c) (v := I c.c) rfl rfl rfl (by rw [Nat.zero_add]; exact hc) rfl) rfl ?_)
        | (refine isLl (x := .tmp 55) rfl ?_; refine lex_R rfl (by kernel_rfl) rfl (ld_f (T := clT) (i := 0 + (j : Int).toNat) (off := 2) (z := c) (v := I c.c) rfl rfl rfl (by rw [Nat.zero_add]; exact hc) rfl) rfl ?_)
        | (refine isAl (x := .tmp 61) ?_; refine do_R rfl (ld_f (T := clT) (i := 0 + (bestN b.wait j : Int).toNat) (off := 2) (z := d) (v := I d.c) rfl rfl rfl (by rw [Nat.zero_add]; exact hd) rfl) rfl ?_)
        | (refine isLl (x := .tmp 61) rfl ?_; refine lex_R rfl (by kernel_rfl) rfl (ld_f (T := clT) (i := 0 + (bestN b.wait j : Int).toNat) (off := 2) (z := d) (v := I d.c) rfl rfl rfl (by rw [Nat.zero_add]; exact hd) rfl) rfl ?_)
        | refine aops_nil ?_
        | refine lex_done _ rfl (by kernel_rfl) ?_
        | refine aw_ct rfl ?_
        | refine aw_cf rfl ?_
        | refine aw_block ?_
        | refine then_n ?_
        | refine aw_skip ?_
        | refine aw_exit ?_
        | refine then_x ?_
        | refine then_r ?_
        | refine block_x ?_
        | refine block_n ?_
        | refine block_r ?_
        | refine aw_ret ?_
      refine aw_cond rfl (fun h5 => ?_) (fun h5 => ?_)
      · have eb := bestN_yes hc hd (of_decide_eq_true h5)
        repeat' first
          | refine aw_seq ?_
          | refine aw_region ?_
          | refine aw_lex [] ?_
          | (refine isA ?_; refine do_F rfl ?_)
          | (refine isL ?_; refine lex_F rfl (by kernel_rfl) rfl rfl ?_)
          | (refine isLg rfl ?_; refine lex_S rfl (by kernel_rfl) rfl rfl ?_)
          | refine aops_nil ?_
          | refine lex_done _ rfl (by kernel_rfl) ?_
          | refine aw_ct rfl ?_
          | refine aw_cf rfl ?_
          | refine aw_block ?_
          | refine then_n ?_
          | refine aw_skip ?_
          | refine aw_exit ?_
          | refine then_x ?_
          | refine then_r ?_
          | refine block_x ?_
          | refine block_n ?_
          | refine block_r ?_
          | refine aw_ret ?_
        refine ⟨⟨j + 1, by omega, hlt⟩, by simp only; omega, ?_⟩
        exact sub0 [0, 1, 2, 3] rfl rfl (by decide) (.cons rfl rfl rfl rfl (by repeat' first | exact les_nil | refine les_cons ?_ ?_ | exact le_any | exact le_refl rfl | exact le_sl rfl rfl | exact le_ptr rfl) (.cons rfl rfl rfl rfl (by repeat' first | exact les_nil | refine les_cons ?_ ?_ | exact le_any | exact le_refl rfl | exact le_sl rfl rfl | exact le_ptr rfl) (.cons rfl rfl rfl rfl (les_refl (flat_noH _ _)) (.cons rfl rfl rfl rfl (les_refl (flat_noH _ _)) .nil)))) (by repeat' first | exact les_nil | refine les_cons ?_ ?_ | exact le_any | exact le_refl rfl | exact le_sl rfl rfl | exact le_ptr rfl | exact le_i hlt (by omega) | exact le_k (congrArg _ (by simp only [eb])))
      · have eb := bestN_no hc hd (of_decide_eq_false h5)
        repeat' first
          | refine aw_seq ?_
          | refine aw_region ?_
          | refine aw_lex [] ?_
          | (refine isA ?_; refine do_F rfl ?_)
          | (refine isL ?_; refine lex_F rfl (by kernel_rfl) rfl rfl ?_)
          | (refine isLg rfl ?_; refine lex_S rfl (by kernel_rfl) rfl rfl ?_)
          | refine aops_nil ?_
          | refine lex_done _ rfl (by kernel_rfl) ?_
          | refine aw_ct rfl ?_
          | refine aw_cf rfl ?_
          | refine aw_block ?_
          | refine then_n ?_
          | refine aw_skip ?_
          | refine aw_exit ?_
          | refine then_x ?_
          | refine then_r ?_
          | refine block_x ?_
          | refine block_n ?_
          | refine block_r ?_
          | refine aw_ret ?_
        refine ⟨⟨j + 1, by omega, hlt⟩, by simp only; omega, ?_⟩
        exact sub0 [0, 1, 2, 3] rfl rfl (by decide) (.cons rfl rfl rfl rfl (by repeat' first | exact les_nil | refine les_cons ?_ ?_ | exact le_any | exact le_refl rfl | exact le_sl rfl rfl | exact le_ptr rfl) (.cons rfl rfl rfl rfl (by repeat' first | exact les_nil | refine les_cons ?_ ?_ | exact le_any | exact le_refl rfl | exact le_sl rfl rfl | exact le_ptr rfl) (.cons rfl rfl rfl rfl (les_refl (flat_noH _ _)) (.cons rfl rfl rfl rfl (les_refl (flat_noH _ _)) .nil)))) (by repeat' first | exact les_nil | refine les_cons ?_ ?_ | exact le_any | exact le_refl rfl | exact le_sl rfl rfl | exact le_ptr rfl | exact le_i hlt (by omega) | exact le_k (congrArg _ (by simp only [eb])))
    · have hjn : j = b.wait.length := by have := of_decide_eq_false h3; simp only at this; omega
      subst hjn
      repeat' first
        | refine aw_seq ?_
        | refine aw_region ?_
        | refine aw_lex [7, 9] ?_
        | (refine isA ?_; refine do_F rfl ?_)
        | (refine isL ?_; refine lex_F rfl (by kernel_rfl) rfl rfl ?_)
        | (refine isLg rfl ?_; refine lex_S rfl (by kernel_rfl) rfl rfl ?_)
        | (refine isAi ?_; refine do_R rfl (step_ia_sl (j := bestN b.wait b.wait.length) rfl rfl rfl (Nat.zero_le _) rfl rfl (Int.natCast_nonneg _) (by omega)) rfl ?_)
        | (refine isLi rfl ?_; refine lex_R rfl (by kernel_rfl) rfl (step_ia_sl (j := bestN b.wait b.wait.length) rfl rfl rfl (Nat.zero_le _) rfl rfl (Int.natCast_nonneg _) (by omega)) rfl ?_)
        | (refine isAl (x := .tmp 70) ?_; refine do_R rfl (ld_a (T := clT) (i := 0 + (bestN b.wait b.wait.length : Int).toNat) (z := w) rfl rfl rfl (by rw [Nat.zero_add]; exact hw)) rfl ?_)
        | (refine isLl (x := .tmp 70) rfl ?_; refine lex_R rfl (by kernel_rfl) rfl (ld_a (T := clT) (i := 0 + (bestN b.wait b.wait.length : Int).toNat) (z := w) rfl rfl rfl (by rw [Nat.zero_add]; exact hw)) rfl ?_)
        | (refine isL ?_; refine lex_W rfl (by kernel_rfl) rfl (st_callK rfl (c_put (dropC b.act i) w (by omega)) (.cons (pur_l rfl rfl) (.cons (.same rfl) .nil)) (fun q hq => by simp at hq; subst hq; exact flat_noH _ _) rfl rfl) rfl ?_)
        | (refine isL ?_; refine lex_WF rfl (by kernel_rfl) rfl rfl ?_)
        | (refine isAc 84 ?_; refine do_R rfl (st_callK rfl (c_drop b.wait (bestC b.wait) hbl h2) (.cons (pur_l rfl rfl) (.cons (.same rfl) .nil)) (fun q hq => by simp at hq; subst hq; exact flat_noH _ _) rfl rfl) rfl ?_)
        | (refine isLc 84 rfl ?_; refine lex_R rfl (by kernel_rfl) rfl (st_callK rfl (c_drop b.wait (bestC b.wait) hbl h2) (.cons (pur_l rfl rfl) (.cons (.same rfl) .nil)) (fun q hq => by simp at hq; subst hq; exact flat_noH _ _) rfl rfl) rfl ?_)
        | exact (by rw [hr]; exact finMCTf [4, 5] (by decide) (cell_is rfl rfl rfl rfl rfl) (le_tup (les_cons (le_agg (les_cons (le_refl rfl) (les_cons (le_refl rfl) (les_cons (le_sl rfl rfl) (les_cons (le_sl rfl rfl) les_nil))))) (les_cons (le_refl rfl) les_nil))) (.cons rfl rfl rfl rfl (les_eq rfl (flat_noH _ _)) (.cons rfl rfl rfl rfl (les_eq rfl (flat_noH _ _)) .nil)) rfl (brK_flat _ _))
        | refine aops_nil ?_
        | refine lex_done _ rfl (by kernel_rfl) ?_
        | refine aw_ct rfl ?_
        | refine aw_cf rfl ?_
        | refine aw_block ?_
        | refine then_n ?_
        | refine aw_skip ?_
        | refine aw_exit ?_
        | refine then_x ?_
        | refine then_r ?_
        | refine block_x ?_
        | refine block_n ?_
        | refine block_r ?_
        | refine aw_ret ?_
end Go.Proofs.Ytjlhfemfmkdlhaa.Ab

/- RmD -/
namespace Go.Proofs.Ytjlhfemfmkdlhaa.Ab
open Go.RowKit

/-- Delete, as it is called; the last cells forgotten. -/
theorem c_del (xs : List Cl) (k : Nat) (hk : k < xs.length) (hl : xs.length ≤ 1000000000) : Meets Go.Proofs.Try.prog 86 [.sl 0 0 xs.length, I k, I (IntKind.i64.wrap ((k : Int) + 1))] [regOf clT 53 xs] (.sl 0 0 (dropC xs k).length) [regOf clT 53 (dropC xs k ++ [z3])] true := by
  have e : IntKind.i64.wrap ((k : Int) + 1) = (k : Int) + 1 := by rw [IntKind.wrap_i64]; omega
  rw [e]
  exact c_delete xs k hk hl
theorem cut_eq (ys : List Cl) (z : Cl) : (clT.flat (ys ++ [z])).take (ys.length * 3) = clT.flat ys := by
  rw [show ys.length * 3 = ys.length * clT.n from rfl, flat_take, List.take_left']
  rfl
theorem c_delC (xs : List Cl) (k : Nat) (hk : k < xs.length) (hl : xs.length ≤ 1000000000) : Meets Go.Proofs.Try.prog 86 [.sl 0 0 xs.length, I k, I (IntKind.i64.wrap ((k : Int) + 1))] [regOf clT 53 xs] (.sl 0 0 (dropC xs k).length) [regOf clT 53 (dropC xs k)] true :=
  (c_del xs k hk hl).cut (h := 0) (q := regOf clT 53 (dropC xs k ++ [z3])) ((dropC xs k).length * 3) rfl (by
    show [(⟨53, 3, (clT.flat (dropC xs k ++ [z3])).take ((dropC xs k).length * 3), 0⟩ : Reg)] = _
    rw [cut_eq]
    rfl)

theorem c_irm (b : Br) (id : Int) (h1 : b.act.length ≤ 1000000000) (h2 : b.wait.length ≤ 1000000000) : Meets Go.Proofs.Try.prog 41 [.agg (brE b), I id] [] (srR (rmV b id)) (brK (rmV b id).1.act (rmV b id).1.wait) false := by
  refine meets_ofCT 4 24 [5] Go.Proofs.Try.func41 rfl rfl rfl ?_
  simp only [Go.Proofs.Try.ntmps41, List.length_cons, List.length_nil, Nat.reduceAdd, Nat.reduceSub, List.replicate_succ, List.replicate_zero, List.cons_append, List.nil_append]
  repeat' first
    | refine aw_seq ?_
    | refine aw_region ?_
    | refine aw_lex [] ?_
    | (refine isA ?_; refine do_F rfl ?_)
    | (refine isL ?_; refine lex_F rfl (by kernel_rfl) rfl rfl ?_)
    | (refine isLg rfl ?_; refine lex_S rfl (by kernel_rfl) rfl rfl ?_)
    | (refine isAc 80 ?_; refine do_R rfl (st_callK rfl (c_clone _ h1 h2) (.cons (.same rfl) .nil) (brK_noH _ _) rfl rfl) rfl ?_)
    | (refine isLc 80 rfl ?_; refine lex_R rfl (by kernel_rfl) rfl (st_callK rfl (c_clone _ h1 h2) (.cons (.same rfl) .nil) (brK_noH _ _) rfl rfl) rfl ?_)
    | (refine isAc 25 ?_; refine do_R rfl (st_call rfl (c_ivalid _ h1 h2) (.cons (.same rfl) .nil) rfl) rfl ?_)
    | (refine isLc 25 rfl ?_; refine lex_R rfl (by kernel_rfl) rfl (st_call rfl (c_ivalid _ h1 h2) (.cons (.same rfl) .nil) rfl) rfl ?_)
    | refine aops_nil ?_
    | refine lex_done _ rfl (by kernel_rfl) ?_
    | refine aw_ct rfl ?_
    | refine aw_cf rfl ?_
    | refine aw_block ?_
    | refine then_n ?_
    | refine aw_skip ?_
    | refine aw_exit ?_
    | refine then_x ?_
    | refine then_r ?_
    | refine block_x ?_
    | refine block_n ?_
    | refine block_r ?_
    | refine aw_ret ?_
  refine aw_cond rfl (fun k1 => ?_) (fun k1 => ?_)
  · have k1 : validB b = false := by simpa using k1
    repeat' first
      | refine aw_seq ?_
      | refine aw_region ?_
      | refine aw_lex [] ?_
      | (refine isA ?_; refine do_F rfl ?_)
      | (refine isL ?_; refine lex_F rfl (by kernel_rfl) rfl rfl ?_)
      | (refine isLg rfl ?_; refine lex_S rfl (by kernel_rfl) rfl rfl ?_)
      | exact (by rw [rm_no k1]; exact finMCTf [2, 3] (by decide) (cell_is rfl rfl rfl rfl rfl) (le_tup (les_cons (le_agg (les_cons (le_refl rfl) (les_cons (le_refl rfl) (les_cons (le_sl rfl rfl) (les_cons (le_sl rfl rfl) les_nil))))) (les_cons (le_refl rfl) les_nil))) (.cons rfl rfl rfl rfl (les_eq rfl (flat_noH _ _)) (.cons rfl rfl rfl rfl (les_eq rfl (flat_noH _ _)) .nil)) rfl (brK_flat _ _))
      | refine aops_nil ?_
      | refine lex_done _ rfl (by kernel_rfl) ?_
      | refine aw_ct rfl ?_
      | refine aw_cf rfl ?_
      | refine aw_block ?_
      | refine then_n ?_
      | refine aw_skip ?_
      | refine aw_exit ?_
      | refine then_x ?_
      | refine then_r ?_
      | refine block_x ?_
      | refine block_n ?_
      | refine block_r ?_
      | refine aw_ret ?_
  have k1 : validB b = true := by simpa using k1
  repeat' first
    | refine aw_seq ?_
    | refine aw_region ?_
    | refine aw_lex [] ?_
    | (refine isA ?_; refine do_F rfl ?_)
    | (refine isL ?_; refine lex_F rfl (by kernel_rfl) rfl rfl ?_)
    | (refine isLg rfl ?_; refine lex_S rfl (by kernel_rfl) rfl rfl ?_)
    | (refine isAc 76 ?_; refine do_R rfl (st_call rfl (c_clientAt b.wait id h2) (.cons (pur_l rfl rfl) (.cons (.same rfl) .nil)) rfl) rfl ?_)
    | (refine isLc 76 rfl ?_; refine lex_R rfl (by kernel_rfl) rfl (st_call rfl (c_clientAt b.wait id h2) (.cons (pur_l rfl rfl) (.cons (.same rfl) .nil)) rfl) rfl ?_)
    | refine aops_nil ?_
    | refine lex_done _ rfl (by kernel_rfl) ?_
    | refine aw_ct rfl ?_
    | refine aw_cf rfl ?_
    | refine aw_block ?_
    | refine then_n ?_
    | refine aw_skip ?_
    | refine aw_exit ?_
    | refine then_x ?_
    | refine then_r ?_
    | refine block_x ?_
    | refine block_n ?_
    | refine block_r ?_
    | refine aw_ret ?_
  refine aw_cond rfl (fun k2 => ?_) (fun k2 => ?_)
  · obtain ⟨z, _, hz, _⟩ := at_some k2
    have hlt := (List.getElem?_eq_some_iff.1 hz).1
    have e := Int.toNat_of_nonneg (of_decide_eq_true k2)
    have hr := rm_wait k1 k2
    generalize (idxC b.wait id).toNat = i at hlt e hz hr
    rw [← e]
    repeat' first
      | refine aw_seq ?_
      | refine aw_region ?_
      | refine aw_lex [] ?_
      | (refine isA ?_; refine do_F rfl ?_)
      | (refine isL ?_; refine lex_F rfl (by kernel_rfl) rfl rfl ?_)
      | (refine isLg rfl ?_; refine lex_S rfl (by kernel_rfl) rfl rfl ?_)
      | (refine isAc 86 ?_; refine do_R rfl (st_callN (K := []) (K2 := []) (Rs' := [regOf clT 53 (dropC b.wait i)]) [3] (by decide) rfl (c_delC b.wait i hlt h2) (.flat rfl rfl rfl (flat_noH _ _) (flat_noH _ _) .nil) (.cons (.sl rfl) (.cons (.same rfl) (.cons (.same rfl) .nil))) .nil (.sl rfl) rfl) rfl ?_)
      | (refine isLc 86 rfl ?_; refine lex_R rfl (by kernel_rfl) rfl (st_callN (K := []) (K2 := []) (Rs' := [regOf clT 53 (dropC b.wait i)]) [3] (by decide) rfl (c_delC b.wait i hlt h2) (.flat rfl rfl rfl (flat_noH _ _) (flat_noH _ _) .nil) (.cons (.sl rfl) (.cons (.same rfl) (.cons (.same rfl) .nil))) .nil (.sl rfl) rfl) rfl ?_)
      | exact (by rw [hr]; exact finMCTf [2, 3] (by decide) (cell_is rfl rfl rfl rfl rfl) (le_tup (les_cons (le_agg (les_cons (le_refl rfl) (les_cons (le_refl rfl) (les_cons (le_sl rfl rfl) (les_cons (le_sl rfl rfl) les_nil))))) (les_cons (le_refl rfl) les_nil))) (.cons rfl rfl rfl rfl (les_eq rfl (flat_noH _ _)) (.cons rfl rfl rfl rfl (les_eq rfl (flat_noH _ _)) .nil)) rfl (brK_flat _ _))
      | refine aops_nil ?_
      | refine lex_done _ rfl (by kernel_rfl) ?_
      | refine aw_ct rfl ?_
      | refine aw_cf rfl ?_
      | refine aw_block ?_
      | refine then_n ?_
      | refine aw_skip ?_
      | refine aw_exit ?_
      | refine then_x ?_
      | refine then_r ?_
      | refine block_x ?_
      | refine block_n ?_
      | refine block_r ?_
      | refine aw_ret ?_
  repeat' first
    | refine aw_seq ?_
    | refine aw_region ?_
    | refine aw_lex [] ?_
    | (refine isA ?_; refine do_F rfl ?_)
    | (refine isL ?_; refine lex_F rfl (by kernel_rfl) rfl rfl ?_)
    | (refine isLg rfl ?_; refine lex_S rfl (by kernel_rfl) rfl rfl ?_)
    | (refine isAc 76 ?_; refine do_R rfl (st_call rfl (c_clientAt b.act id h1) (.cons (pur_l rfl rfl) (.cons (.same rfl) .nil)) rfl) rfl ?_)
    | (refine isLc 76 rfl ?_; refine lex_R rfl (by kernel_rfl) rfl (st_call rfl (c_clientAt b.act id h1) (.cons (pur_l rfl rfl) (.cons (.same rfl) .nil)) rfl) rfl ?_)
    | refine aops_nil ?_
    | refine lex_done _ rfl (by kernel_rfl) ?_
    | refine aw_ct rfl ?_
    | refine aw_cf rfl ?_
    | refine aw_block ?_
    | refine then_n ?_
    | refine aw_skip ?_
    | refine aw_exit ?_
    | refine then_x ?_
    | refine then_r ?_
    | refine block_x ?_
    | refine block_n ?_
    | refine block_r ?_
    | refine aw_ret ?_
  refine aw_cond rfl (fun k3 => ?_) (fun k3 => ?_)
  · have k3' : decide (0 ≤ idxC b.act id) = false := by have := of_decide_eq_true k3; exact decide_eq_false (by omega)
    repeat' first
      | refine aw_seq ?_
      | refine aw_region ?_
      | refine aw_lex [] ?_
      | (refine isA ?_; refine do_F rfl ?_)
      | (refine isL ?_; refine lex_F rfl (by kernel_rfl) rfl rfl ?_)
      | (refine isLg rfl ?_; refine lex_S rfl (by kernel_rfl) rfl rfl ?_)
      | exact (by rw [rm_none k2 k3']; exact finMCTf [2, 3] (by decide) (cell_is rfl rfl rfl rfl rfl) (le_tup (les_cons (le_agg (les_cons (le_refl rfl) (les_cons (le_refl rfl) (les_cons (le_sl rfl rfl) (les_cons (le_sl rfl rfl) les_nil))))) (les_cons (le_refl rfl) les_nil))) (.cons rfl rfl rfl rfl (les_eq rfl (flat_noH _ _)) (.cons rfl rfl rfl rfl (les_eq rfl (flat_noH _ _)) .nil)) rfl (brK_flat _ _))
      | refine aops_nil ?_
      | refine lex_done _ rfl (by kernel_rfl) ?_
      | refine aw_ct rfl ?_
      | refine aw_cf rfl ?_
      | refine aw_block ?_
      | refine then_n ?_
      | refine aw_skip ?_
      | refine aw_exit ?_
      | refine then_x ?_
      | refine then_r ?_
      | refine block_x ?_
      | refine block_n ?_
      | refine block_r ?_
      | refine aw_ret ?_
  have k3' : decide (0 ≤ idxC b.act id) = true := by have := of_decide_eq_false k3; exact decide_eq_true (by omega)
  obtain ⟨z, _, hz, _⟩ := at_some k3'
  have hlt := (List.getElem?_eq_some_iff.1 hz).1
  have e := Int.toNat_of_nonneg (of_decide_eq_true k3')
  have hr0 := fun h3 => rm_act0 (id := id) k1 k2 k3' h3
  have hr1 := fun c h3 => rm_act1 (id := id) (c := c) k1 k2 k3' h3
  generalize (idxC b.act id).toNat = i at hlt e hz hr0 hr1
  rw [← e]
  have hdl := dropC_len hlt
  repeat' first
    | refine aw_seq ?_
    | refine aw_region ?_
    | refine aw_lex [] ?_
    | (refine isA ?_; refine do_F rfl ?_)
    | (refine isL ?_; refine lex_F rfl (by kernel_rfl) rfl rfl ?_)
    | (refine isLg rfl ?_; refine lex_S rfl (by kernel_rfl) rfl rfl ?_)
    | (refine isAc 86 ?_; refine do_R rfl (st_callN (K := []) (K2 := []) (Rs' := [regOf clT 53 (dropC b.act i ++ [z3])]) [2] (by decide) rfl (c_del b.act i hlt h1) (.flat rfl rfl rfl (flat_noH _ _) (flat_noH _ _) .nil) (.cons (.sl rfl) (.cons (.same rfl) (.cons (.same rfl) .nil))) .nil (.sl rfl) rfl) rfl ?_)
    | (refine isLc 86 rfl ?_; refine lex_R rfl (by kernel_rfl) rfl (st_callN (K := []) (K2 := []) (Rs' := [regOf clT 53 (dropC b.act i ++ [z3])]) [2] (by decide) rfl (c_del b.act i hlt h1) (.flat rfl rfl rfl (flat_noH _ _) (flat_noH _ _) .nil) (.cons (.sl rfl) (.cons (.same rfl) (.cons (.same rfl) .nil))) .nil (.sl rfl) rfl) rfl ?_)
    | refine aops_nil ?_
    | refine lex_done _ rfl (by kernel_rfl) ?_
    | refine aw_ct rfl ?_
    | refine aw_cf rfl ?_
    | refine aw_block ?_
    | refine then_n ?_
    | refine aw_skip ?_
    | refine aw_exit ?_
    | refine then_x ?_
    | refine then_r ?_
    | refine block_x ?_
    | refine block_n ?_
    | refine block_r ?_
    | refine aw_ret ?_
  refine aw_cond rfl (fun k4 => ?_) (fun k4 => ?_)
  rotate_left
  · have h0 : b.wait.length = 0 := by have := of_decide_eq_false k4; omega
    refine aw_sub (sub_cut (h := 2) ((dropC b.act i).length * 3) rfl rfl) ?_
    repeat' first
      | refine aw_seq ?_
      | refine aw_region ?_
      | refine aw_lex [] ?_
      | (refine isA ?_; refine do_F rfl ?_)
      | (refine isL ?_; refine lex_F rfl (by kernel_rfl) rfl rfl ?_)
      | (refine isLg rfl ?_; refine lex_S rfl (by kernel_rfl) rfl rfl ?_)
      | exact (by rw [hr0 h0]; exact finMCTf [2, 3] (by decide) (cell_is rfl rfl rfl rfl rfl) (le_tup (les_cons (le_agg (les_cons (le_refl rfl) (les_cons (le_refl rfl) (les_cons (le_sl rfl rfl) (les_cons (le_sl rfl rfl) les_nil))))) (les_cons (le_refl rfl) les_nil))) (.cons rfl rfl rfl rfl (les_eq (cut_eq _ _) (flat_noH _ _)) (.cons rfl rfl rfl rfl (les_eq rfl (flat_noH _ _)) .nil)) rfl (brK_flat _ _))
      | refine aops_nil ?_
      | refine lex_done _ rfl (by kernel_rfl) ?_
      | refine aw_ct rfl ?_
      | refine aw_cf rfl ?_
      | refine aw_block ?_
      | refine then_n ?_
      | refine aw_skip ?_
      | refine aw_exit ?_
      | refine then_x ?_
      | refine then_r ?_
      | refine block_x ?_
      | refine block_n ?_
      | refine block_r ?_
      | refine aw_ret ?_
  have h0 : 0 < b.wait.length := by have := of_decide_eq_true k4; omega
  have hbl := bestC_lt h0
  obtain ⟨w, hw⟩ : ∃ w, b.wait[bestC b.wait]? = some w := ⟨_, List.getElem?_eq_getElem hbl⟩
  have hr := hr1 w hw
  have hp := posC_le (dropC b.act i) w
  repeat' first
    | refine aw_seq ?_
    | refine aw_region ?_
    | refine aw_lex [] ?_
    | (refine isA ?_; refine do_F rfl ?_)
    | (refine isL ?_; refine lex_F rfl (by kernel_rfl) rfl rfl ?_)
    | (refine isLg rfl ?_; refine lex_S rfl (by kernel_rfl) rfl rfl ?_)
    | refine aops_nil ?_
    | refine lex_done _ rfl (by kernel_rfl) ?_
    | refine aw_ct rfl ?_
    | refine aw_cf rfl ?_
    | refine aw_block ?_
    | refine then_n ?_
    | refine aw_skip ?_
    | refine aw_exit ?_
    | refine then_x ?_
    | refine then_r ?_
    | refine block_x ?_
    | refine block_n ?_
    | refine block_r ?_
    | refine aw_ret ?_
  refine aw_loop (α := { j : Nat // j ≤ b.wait.length }) (fun j => ⟨(.any :: .any :: .any :: .any :: (.ptr 0 0) :: .any :: (.ptr 1 0) :: .any :: .any :: (I (bestN b.wait j.1)) :: .any :: .any :: .any :: .any :: .any :: .any :: .any :: .any :: .any :: .any :: .any :: .any :: .any :: .any :: .any :: .any :: .any :: .any :: .any :: .any :: .any :: .any :: .any :: .any :: .any :: .any :: .any :: .any :: .any :: .any :: .any :: .any :: .any :: .any :: .any :: .any :: .any :: .any :: .any :: .any :: .any :: .any :: .any :: (.sl 2 0 b.wait.length) :: (I b.wait.length) :: (I j.1) :: .any :: .any :: .any :: .any :: .any :: .any :: .any :: .any :: .any :: .any :: .any :: .any :: .any :: .any :: .any :: .any :: .any :: .any :: .any :: .any :: .any :: .any :: .any :: .any :: .any :: .any :: .any :: .any :: .any :: .any :: .any :: .any :: .any :: .any :: .any :: .any :: .any :: .any :: .any :: .any :: .any :: .any :: .any :: .any :: .any :: .any :: .any :: .any :: .any :: .any :: .any :: .any :: .any :: []), [⟨24, 4, [I 0, I 0, .k (.slice none 0 0), .k (.slice none 0 0)], 0⟩, ⟨24, 4, [I b.pool, I b.next, .sl 3 0 (dropC b.act i).length, .sl 2 0 b.wait.length], 0⟩, regOf clT 53 b.wait, regOf clT 53 (dropC b.act i ++ [z3])], 0⟩) (fun j => b.wait.length - j.1) ⟨0, Nat.zero_le _⟩ ?_ ?_
  · exact sub0 [1, 4, 3, 2] rfl rfl (by decide) (.cons rfl rfl rfl rfl (by repeat' first | exact les_nil | refine les_cons ?_ ?_ | exact le_any | exact le_refl rfl | exact le_sl rfl rfl | exact le_ptr rfl) (.cons rfl rfl rfl rfl (by repeat' first | exact les_nil | refine les_cons ?_ ?_ | exact le_any | exact le_refl rfl | exact le_sl rfl rfl | exact le_ptr rfl) (.cons rfl rfl rfl rfl (les_refl (flat_noH _ _)) (.cons rfl rfl rfl rfl (les_refl (flat_noH _ _)) .nil)))) (by repeat' first | exact les_nil | refine les_cons ?_ ?_ | exact le_any | exact le_refl rfl | exact le_sl rfl rfl | exact le_ptr rfl)
  · rintro ⟨j, hj⟩
    have hbj := bestN_lt h0 j hj
    obtain ⟨d, hd⟩ : ∃ d, b.wait[bestN b.wait j]? = some d := ⟨_, List.getElem?_eq_getElem hbj⟩
    repeat' first
      | refine aw_seq ?_
      | refine aw_region ?_
      | refine aw_lex [] ?_
      | (refine isA ?_; refine do_F rfl ?_)
      | (refine isL ?_; refine lex_F rfl (by kernel_rfl) rfl rfl ?_)
      | (refine isLg rfl ?_; refine lex_S rfl (by kernel_rfl) rfl rfl ?_)
      | refine aops_nil ?_
      | refine lex_done _ rfl (by kernel_rfl) ?_
      | refine aw_ct rfl ?_
      | refine aw_cf rfl ?_
      | refine aw_block ?_
      | refine then_n ?_
      | refine aw_skip ?_
      | refine aw_exit ?_
      | refine then_x ?_
      | refine then_r ?_
      | refine block_x ?_
      | refine block_n ?_
      | refine block_r ?_
      | refine aw_ret ?_
    refine aw_cond rfl (fun h3 => ?_) (fun h3 => ?_)
    · have hlt : j < b.wait.length := by have := of_decide_eq_true h3; simp only at this; omega
      obtain ⟨c, hc⟩ : ∃ c, b.wait[j]? = some c := ⟨_, List.getElem?_eq_getElem hlt⟩
      repeat' first
        | refine aw_seq ?_
        | refine aw_region ?_
        | refine aw_lex [] ?_
        | (refine isA ?_; refine do_F rfl ?_)
        | (refine isL ?_; refine lex_F rfl (by kernel_rfl) rfl rfl ?_)
        | (refine isLg rfl ?_; refine lex_S rfl (by kernel_rfl) rfl rfl ?_)
        | (refine isAi (x := .tmp 53) ?_; refine do_R rfl (step_ia_sl (j := j) rfl rfl rfl (Nat.zero_le _) rfl rfl (Int.natCast_nonneg j) (by omega)) rfl ?_)
        | (refine isLi (x := .tmp 53) rfl ?_; refine lex_R rfl (by kernel_rfl) rfl (step_ia_sl (j := j) rfl rfl rfl (Nat.zero_le _) rfl rfl (Int.natCast_nonneg j) (by omega)) rfl ?_)
        | (refine isAl (x := .tmp 58) ?_; refine do_R rfl (ld_a (T := clT) (i := 0 + (j : Int).toNat) (z := c) rfl rfl rfl (by rw [Nat.zero_add]; exact hc)) rfl ?_)
        | (refine isLl (x := .tmp 58) rfl ?_; refine lex_R rfl (by kernel_rfl) rfl (ld_a (T := clT) (i := 0 + (j : Int).toNat) (z := c) rfl rfl rfl (by rw [Nat.zero_add]; exact hc)) rfl ?_)
        | (refine isAi (x := .tmp 63) ?_; refine do_R rfl (step_ia_sl (j := bestN b.wait j) rfl rfl rfl (Nat.zero_le _) rfl rfl (Int.natCast_nonneg _) (by omega)) rfl ?_)
        | (refine isLi (x := .tmp 63) rfl ?_; refine lex_R rfl (by kernel_rfl) rfl (step_ia_sl (j := bestN b.wait j) rfl rfl rfl (Nat.zero_le _) rfl rfl (Int.natCast_nonneg _) (by omega)) rfl ?_)
        | (refine isAl (x := .tmp 66) ?_; refine do_R rfl (ld_f (T := clT) (i := 0 + (bestN b.wait j : Int).toNat) (off := 2) (z := d) (v := I d.c) rfl rfl rfl (by rw [Nat.zero_add]; exact hd) rfl) rfl ?_)
        | (refine isLl (x := .tmp 66) rfl ?_; refine lex_R rfl (by kernel_rfl) rfl (ld_f (T := clT) (i := 0 + (bestN b.wait j : Int).toNat) (off := 2) (z := d) (v := I d.c) rfl rfl rfl (by rw [Nat.zero_add]; exact hd) rfl) rfl ?_)
        | refine aops_nil ?_
        | refine lex_done _ rfl (by kernel_rfl) ?_
        | refine aw_ct rfl ?_
        | refine aw_cf rfl ?_
        | refine aw_block ?_
        | refine then_n ?_
        | refine aw_skip ?_
        | refine aw_exit ?_
        | refine then_x ?_
        | refine then_r ?_
        | refine block_x ?_
        | refine block_n ?_
        | refine block_r ?_
        | refine aw_ret ?_
      refine aw_cond rfl (fun h5 => ?_) (fun h5 => ?_)
      · have eb := bestN_yes hc hd (of_decide_eq_true h5)
        repeat' first
          | refine aw_seq ?_
          | refine aw_region ?_
          | refine aw_lex [] ?_
          | (refine isA ?_; refine do_F rfl ?_)
          | (refine isL ?_; refine lex_F rfl (by kernel_rfl) rfl rfl ?_)
          | (refine isLg rfl ?_; refine lex_S rfl (by kernel_rfl) rfl rfl ?_)
          | refine aops_nil ?_
          | refine lex_done _ rfl (by kernel_rfl) ?_
          | refine aw_ct rfl ?_
          | refine aw_cf rfl ?_
          | refine aw_block ?_
          | refine then_n ?_
          | refine aw_skip ?_
          | refine aw_exit ?_
          | refine then_x ?_
          | refine then_r ?_
          | refine block_x ?_
          | refine block_n ?_
          | refine block_r ?_
          | refine aw_ret ?_
        refine ⟨⟨j + 1, hlt⟩, by simp only; omega, ?_⟩
        exact sub0 [0, 1, 2, 3] rfl rfl (by decide) (.cons rfl rfl rfl rfl (by repeat' first | exact les_nil | refine les_cons ?_ ?_ | exact le_any | exact le_refl rfl | exact le_sl rfl rfl | exact le_ptr rfl) (.cons rfl rfl rfl rfl (by repeat' first | exact les_nil | refine les_cons ?_ ?_ | exact le_any | exact le_refl rfl | exact le_sl rfl rfl | exact le_ptr rfl) (.cons rfl rfl rfl rfl (les_refl (flat_noH _ _)) (.cons rfl rfl rfl rfl (les_refl (flat_noH _ _)) .nil)))) (by repeat' first | exact les_nil | refine les_cons ?_ ?_ | exact le_any | exact le_refl rfl | exact le_sl rfl rfl | exact le_ptr rfl | exact le_i hlt (by omega) | exact le_k (congrArg _ (by simp only [eb])))
      · have eb := bestN_no hc hd (of_decide_eq_false h5)
        repeat' first
          | refine aw_seq ?_
          | refine aw_region ?_
          | refine aw_lex [] ?_
          | (refine isA ?_; refine do_F rfl ?_)
          | (refine isL ?_; refine lex_F rfl (by kernel_rfl) rfl rfl ?_)
          | (refine isLg rfl ?_; refine lex_S rfl (by kernel_rfl) rfl rfl ?_)
          | refine aops_nil ?_
          | refine lex_done _ rfl (by kernel_rfl) ?_
          | refine aw_ct rfl ?_
          | refine aw_cf rfl ?_
          | refine aw_block ?_
          | refine then_n ?_
          | refine aw_skip ?_
          | refine aw_exit ?_
          | refine then_x ?_
          | refine then_r ?_
          | refine block_x ?_
          | refine block_n ?_
          | refine block_r ?_
          | refine aw_ret ?_
        refine ⟨⟨j + 1, hlt⟩, by simp only; omega, ?_⟩
        exact sub0 [0, 1, 2, 3] rfl rfl (by decide) (.cons rfl rfl rfl rfl (by repeat' first | exact les_nil | refine les_cons ?_ ?_ | exact le_any | exact le_refl rfl | exact le_sl rfl rfl | exact le_ptr rfl) (.cons rfl rfl rfl rfl (by repeat' first | exact les_nil | refine les_cons ?_ ?_ | exact le_any | exact le_refl rfl | exact le_sl rfl rfl | exact le_ptr rfl) (.cons rfl rfl rfl rfl (les_refl (flat_noH _ _)) (.cons rfl rfl rfl rfl (les_refl (flat_noH _ _)) .nil)))) (by repeat' first | exact les_nil | refine les_cons ?_ ?_ | exact le_any | exact le_refl rfl | exact le_sl rfl rfl | exact le_ptr rfl | exact le_i hlt (by omega) | exact le_k (congrArg _ (by simp only [eb])))
    · have hjn : j = b.wait.length := by have := of_decide_eq_false h3; simp only at this; omega
      subst hjn
      repeat' first
        | refine aw_seq ?_
        | refine aw_region ?_
        | refine aw_lex [] ?_
        | (refine isA ?_; refine do_F rfl ?_)
        | (refine isL ?_; refine lex_F rfl (by kernel_rfl) rfl rfl ?_)
        | (refine isLg rfl ?_; refine lex_S rfl (by kernel_rfl) rfl rfl ?_)
        | (refine isAi ?_; refine do_R rfl (step_ia_sl (j := bestN b.wait b.wait.length) rfl rfl rfl (Nat.zero_le _) rfl rfl (Int.natCast_nonneg _) (by omega)) rfl ?_)
        | (refine isLi rfl ?_; refine lex_R rfl (by kernel_rfl) rfl (step_ia_sl (j := bestN b.wait b.wait.length) rfl rfl rfl (Nat.zero_le _) rfl rfl (Int.natCast_nonneg _) (by omega)) rfl ?_)
        | (refine isAl (x := .tmp 74) ?_; refine do_R rfl (ld_a (T := clT) (i := 0 + (bestN b.wait b.wait.length : Int).toNat) (z := w) rfl rfl rfl (by rw [Nat.zero_add]; exact hw)) rfl ?_)
        | (refine isLl (x := .tmp 74) rfl ?_; refine lex_R rfl (by kernel_rfl) rfl (ld_a (T := clT) (i := 0 + (bestN b.wait b.wait.length : Int).toNat) (z := w) rfl rfl rfl (by rw [Nat.zero_add]; exact hw)) rfl ?_)
        | (refine isAc 86 ?_; refine do_R rfl (st_callN (K := []) (K2 := []) (Rs' := [regOf clT 53 (dropC b.wait (bestC b.wait))]) [2] (by decide) rfl (c_delC b.wait (bestC b.wait) hbl h2) (.flat rfl rfl rfl (flat_noH _ _) (flat_noH _ _) .nil) (.cons (.sl rfl) (.cons (.same rfl) (.cons (.same rfl) .nil))) .nil (.sl rfl) rfl) rfl ?_)
        | (refine isLc 86 rfl ?_; refine lex_R rfl (by kernel_rfl) rfl (st_callN (K := []) (K2 := []) (Rs' := [regOf clT 53 (dropC b.wait (bestC b.wait))]) [2] (by decide) rfl (c_delC b.wait (bestC b.wait) hbl h2) (.flat rfl rfl rfl (flat_noH _ _) (flat_noH _ _) .nil) (.cons (.sl rfl) (.cons (.same rfl) (.cons (.same rfl) .nil))) .nil (.sl rfl) rfl) rfl ?_)
        | refine aops_nil ?_
        | refine lex_done _ rfl (by kernel_rfl) ?_
        | refine aw_ct rfl ?_
        | refine aw_cf rfl ?_
        | refine aw_block ?_
        | refine then_n ?_
        | refine aw_skip ?_
        | refine aw_exit ?_
        | refine then_x ?_
        | refine then_r ?_
        | refine block_x ?_
        | refine block_n ?_
        | refine block_r ?_
        | refine aw_ret ?_
      refine aw_loop (α := { q : Nat // q ≤ posC (dropC b.act i) w }) (fun q => ⟨(.any :: .any :: .any :: .any :: (.ptr 0 0) :: .any :: (.ptr 1 0) :: .any :: .any :: .any :: .any :: .any :: (.ptr 4 0) :: (I q.1) :: .any :: .any :: .any :: .any :: .any :: .any :: .any :: .any :: .any :: .any :: .any :: .any :: .any :: .any :: .any :: .any :: .any :: .any :: .any :: .any :: .any :: .any :: .any :: .any :: .any :: .any :: .any :: .any :: .any :: .any :: .any :: .any :: .any :: .any :: .any :: .any :: .any :: .any :: .any :: .any :: .any :: .any :: .any :: .any :: .any :: .any :: .any :: .any :: .any :: .any :: .any :: .any :: .any :: .any :: .any :: .any :: .any :: .any :: .any :: .any :: .any :: .any :: .any :: .any :: .any :: .any :: .any :: .any :: .any :: .any :: .any :: .any :: .any :: .any :: .any :: .any :: .any :: .any :: .any :: .any :: .any :: .any :: .any :: .any :: .any :: .any :: .any :: .any :: .any :: .any :: .any :: .any :: .any :: .any :: .any :: []), [⟨24, 4, [I 0, I 0, .k (.slice none 0 0), .k (.slice none 0 0)], 0⟩, ⟨24, 4, [I b.pool, I b.next, .sl 3 0 (dropC b.act i).length, .sl 2 0 (dropC b.wait (bestC b.wait)).length], 0⟩, regOf clT 53 (dropC b.wait (bestC b.wait)), regOf clT 53 (dropC b.act i ++ [z3]), ⟨53, 3, clE w, 0⟩], 0⟩) (fun q => posC (dropC b.act i) w - q.1) ⟨0, Nat.zero_le _⟩ ?_ ?_
      · exact sub0 [0, 1, 2, 3, 4] rfl rfl (by decide) (.cons rfl rfl rfl rfl (by repeat' first | exact les_nil | refine les_cons ?_ ?_ | exact le_any | exact le_refl rfl | exact le_sl rfl rfl | exact le_ptr rfl) (.cons rfl rfl rfl rfl (by repeat' first | exact les_nil | refine les_cons ?_ ?_ | exact le_any | exact le_refl rfl | exact le_sl rfl rfl | exact le_ptr rfl) (.cons rfl rfl rfl rfl (les_refl (flat_noH _ _)) (.cons rfl rfl rfl rfl (les_refl (flat_noH _ _)) (.cons rfl rfl rfl rfl (les_eq rfl (noHs_mem rfl)) .nil))))) (by repeat' first | exact les_nil | refine les_cons ?_ ?_ | exact le_any | exact le_refl rfl | exact le_sl rfl rfl | exact le_ptr rfl)
      · rintro ⟨q, hq⟩
        repeat' first
          | refine aw_seq ?_
          | refine aw_region ?_
          | refine aw_lex [] ?_
          | (refine isA ?_; refine do_F rfl ?_)
          | (refine isL ?_; refine lex_F rfl (by kernel_rfl) rfl rfl ?_)
          | (refine isLg rfl ?_; refine lex_S rfl (by kernel_rfl) rfl rfl ?_)
          | refine aops_nil ?_
          | refine lex_done _ rfl (by kernel_rfl) ?_
          | refine aw_ct rfl ?_
          | refine aw_cf rfl ?_
          | refine aw_block ?_
          | refine then_n ?_
          | refine aw_skip ?_
          | refine aw_exit ?_
          | refine then_x ?_
          | refine then_r ?_
          | refine block_x ?_
          | refine block_n ?_
          | refine block_r ?_
          | refine aw_ret ?_
        refine lex_br rfl rfl rfl rfl (fun h6 => ?_) (fun h6 => ?_)
        · have hlt2 : q < (dropC b.act i).length := by have := of_decide_eq_true h6; simp only at this; omega
          obtain ⟨y, hy⟩ : ∃ y, (dropC b.act i)[q]? = some y := ⟨_, List.getElem?_eq_getElem hlt2⟩
          have hy2 := posC_step hq hy
          have hy3 : (dropC b.act i ++ [z3])[0 + (q : Int).toNat]? = some y := by rw [Nat.zero_add]; exact app_left hy
          repeat' first
            | refine aw_seq ?_
            | refine aw_region ?_
            | refine aw_lex [] ?_
            | (refine isA ?_; refine do_F rfl ?_)
            | (refine isL ?_; refine lex_F rfl (by kernel_rfl) rfl rfl ?_)
            | (refine isLg rfl ?_; refine lex_S rfl (by kernel_rfl) rfl rfl ?_)
            | (refine isAi ?_; refine do_R rfl (step_ia_sl (j := q) rfl rfl rfl (Nat.zero_le _) rfl rfl (Int.natCast_nonneg q) (by omega)) rfl ?_)
            | (refine isLi rfl ?_; refine lex_R rfl (by kernel_rfl) rfl (step_ia_sl (j := q) rfl rfl rfl (Nat.zero_le _) rfl rfl (Int.natCast_nonneg q) (by omega)) rfl ?_)
            | (refine isAl (x := .tmp 93) ?_; refine do_R rfl (ld_f (T := clT) (i := 0 + (q : Int).toNat) (off := 0) (z := y) (v := I y.a) rfl rfl rfl hy3 rfl) rfl ?_)
            | (refine isLl (x := .tmp 93) rfl ?_; refine lex_R rfl (by kernel_rfl) rfl (ld_f (T := clT) (i := 0 + (q : Int).toNat) (off := 0) (z := y) (v := I y.a) rfl rfl rfl hy3 rfl) rfl ?_)
            | refine aops_nil ?_
            | refine lex_done _ rfl (by kernel_rfl) ?_
            | refine aw_ct rfl ?_
            | refine aw_cf rfl ?_
            | refine aw_block ?_
            | refine then_n ?_
            | refine aw_skip ?_
            | refine aw_exit ?_
            | refine then_x ?_
            | refine then_r ?_
            | refine block_x ?_
            | refine block_n ?_
            | refine block_r ?_
            | refine aw_ret ?_
          refine aw_cond rfl (fun h7 => ?_) (fun h7 => ?_)
          · have h8 := hy2.1 (of_decide_eq_true h7)
            repeat' first
              | refine aw_seq ?_
              | refine aw_region ?_
              | refine aw_lex [] ?_
              | (refine isA ?_; refine do_F rfl ?_)
              | (refine isL ?_; refine lex_F rfl (by kernel_rfl) rfl rfl ?_)
              | (refine isLg rfl ?_; refine lex_S rfl (by kernel_rfl) rfl rfl ?_)
              | refine aops_nil ?_
              | refine lex_done _ rfl (by kernel_rfl) ?_
              | refine aw_ct rfl ?_
              | refine aw_cf rfl ?_
              | refine aw_block ?_
              | refine then_n ?_
              | refine aw_skip ?_
              | refine aw_exit ?_
              | refine then_x ?_
              | refine then_r ?_
              | refine block_x ?_
              | refine block_n ?_
              | refine block_r ?_
              | refine aw_ret ?_
            refine ⟨⟨q + 1, h8⟩, by simp only; omega, ?_⟩
            exact sub0 [0, 1, 2, 3, 4] rfl rfl (by decide) (.cons rfl rfl rfl rfl (by repeat' first | exact les_nil | refine les_cons ?_ ?_ | exact le_any | exact le_refl rfl | exact le_sl rfl rfl | exact le_ptr rfl) (.cons rfl rfl rfl rfl (by repeat' first | exact les_nil | refine les_cons ?_ ?_ | exact le_any | exact le_refl rfl | exact le_sl rfl rfl | exact le_ptr rfl) (.cons rfl rfl rfl rfl (les_refl (flat_noH _ _)) (.cons rfl rfl rfl rfl (les_refl (flat_noH _ _)) (.cons rfl rfl rfl rfl (les_eq rfl (noHs_mem rfl)) .nil))))) (by repeat' first | exact les_nil | refine les_cons ?_ ?_ | exact le_any | exact le_refl rfl | exact le_sl rfl rfl | exact le_ptr rfl | exact le_i hlt2 (by omega))
          · have h8 : q = posC (dropC b.act i) w := by have := of_decide_eq_false h7; have := mt hy2.2 this; omega
            subst h8
            repeat' first
              | refine aw_seq ?_
              | refine aw_region ?_
              | refine aw_lex [] ?_
              | (refine isA ?_; refine do_F rfl ?_)
              | (refine isL ?_; refine lex_F rfl (by kernel_rfl) rfl rfl ?_)
              | (refine isLg rfl ?_; refine lex_S rfl (by kernel_rfl) rfl rfl ?_)
              | (refine isAc 87 ?_; refine do_R rfl (st_callN (K := []) (K2 := []) (Rs' := [regOf clT 53 (putC (dropC b.act i) w), regOf clT 53 [w]]) [3, 5] (by decide) rfl (c_insert (dropC b.act i) z3 w (posC (dropC b.act i) w) hp (by omega)) (.flat rfl rfl rfl (flat_noH _ _) (flat_noH _ _) (.flat rfl rfl rfl (flat_noH _ _) (flat_noH _ _) .nil)) (.cons (.sl rfl) (.cons (.same rfl) (.cons (.sl rfl) .nil))) .nil (.sl rfl) rfl) rfl ?_)
              | (refine isLc 87 rfl ?_; refine lex_R rfl (by kernel_rfl) rfl (st_callN (K := []) (K2 := []) (Rs' := [regOf clT 53 (putC (dropC b.act i) w), regOf clT 53 [w]]) [3, 5] (by decide) rfl (c_insert (dropC b.act i) z3 w (posC (dropC b.act i) w) hp (by omega)) (.flat rfl rfl rfl (flat_noH _ _) (flat_noH _ _) (.flat rfl rfl rfl (flat_noH _ _) (flat_noH _ _) .nil)) (.cons (.sl rfl) (.cons (.same rfl) (.cons (.sl rfl) .nil))) .nil (.sl rfl) rfl) rfl ?_)
              | exact (by rw [hr]; exact finMCTf [3, 2] (by decide) (cell_is rfl rfl rfl rfl rfl) (le_tup (les_cons (le_agg (les_cons (le_refl rfl) (les_cons (le_refl rfl) (les_cons (le_sl rfl (putC_len _ _).symm) (les_cons (le_sl rfl rfl) les_nil))))) (les_cons (le_refl rfl) les_nil))) (.cons rfl rfl rfl rfl (les_eq rfl (flat_noH _ _)) (.cons rfl rfl rfl rfl (les_eq rfl (flat_noH _ _)) .nil)) rfl (brK_flat _ _))
              | refine aops_nil ?_
              | refine lex_done _ rfl (by kernel_rfl) ?_
              | refine aw_ct rfl ?_
              | refine aw_cf rfl ?_
              | refine aw_block ?_
              | refine then_n ?_
              | refine aw_skip ?_
              | refine aw_exit ?_
              | refine then_x ?_
              | refine then_r ?_
              | refine block_x ?_
              | refine block_n ?_
              | refine block_r ?_
              | refine aw_ret ?_

        · have h8 : q = posC (dropC b.act i) w := by have := of_decide_eq_false h6; simp only at this; omega
          subst h8
          repeat' first
            | refine aw_seq ?_
            | refine aw_region ?_
            | refine aw_lex [] ?_
            | (refine isA ?_; refine do_F rfl ?_)
            | (refine isL ?_; refine lex_F rfl (by kernel_rfl) rfl rfl ?_)
            | (refine isLg rfl ?_; refine lex_S rfl (by kernel_rfl) rfl rfl ?_)
            | (refine isAc 87 ?_; refine do_R rfl (st_callN (K := []) (K2 := []) (Rs' := [regOf clT 53 (putC (dropC b.act i) w), regOf clT 53 [w]]) [3, 5] (by decide) rfl (c_insert (dropC b.act i) z3 w (posC (dropC b.act i) w) hp (by omega)) (.flat rfl rfl rfl (flat_noH _ _) (flat_noH _ _) (.flat rfl rfl rfl (flat_noH _ _) (flat_noH _ _) .nil)) (.cons (.sl rfl) (.cons (.same rfl) (.cons (.sl rfl) .nil))) .nil (.sl rfl) rfl) rfl ?_)
            | (refine isLc 87 rfl ?_; refine lex_R rfl (by kernel_rfl) rfl (st_callN (K := []) (K2 := []) (Rs' := [regOf clT 53 (putC (dropC b.act i) w), regOf clT 53 [w]]) [3, 5] (by decide) rfl (c_insert (dropC b.act i) z3 w (posC (dropC b.act i) w) hp (by omega)) (.flat rfl rfl rfl (flat_noH _ _) (flat_noH _ _) (.flat rfl rfl rfl (flat_noH _ _) (flat_noH _ _) .nil)) (.cons (.sl rfl) (.cons (.same rfl) (.cons (.sl rfl) .nil))) .nil (.sl rfl) rfl) rfl ?_)
            | exact (by rw [hr]; exact finMCTf [3, 2] (by decide) (cell_is rfl rfl rfl rfl rfl) (le_tup (les_cons (le_agg (les_cons (le_refl rfl) (les_cons (le_refl rfl) (les_cons (le_sl rfl (putC_len _ _).symm) (les_cons (le_sl rfl rfl) les_nil))))) (les_cons (le_refl rfl) les_nil))) (.cons rfl rfl rfl rfl (les_eq rfl (flat_noH _ _)) (.cons rfl rfl rfl rfl (les_eq rfl (flat_noH _ _)) .nil)) rfl (brK_flat _ _))
            | refine aops_nil ?_
            | refine lex_done _ rfl (by kernel_rfl) ?_
            | refine aw_ct rfl ?_
            | refine aw_cf rfl ?_
            | refine aw_block ?_
            | refine then_n ?_
            | refine aw_skip ?_
            | refine aw_exit ?_
            | refine then_x ?_
            | refine then_r ?_
            | refine block_x ?_
            | refine block_n ?_
            | refine block_r ?_
            | refine aw_ret ?_

end Go.Proofs.Ytjlhfemfmkdlhaa.Ab
