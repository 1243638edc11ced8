/- Texts SpA, SpB, SpC, SpD in one. -/
import Derived.Test.YtojcojanokhnaaaGD
import Derived.Test.YtojcojanokhnaaaGG
set_option linter.unusedVariables false
set_option linter.unusedSimpArgs false
set_option maxRecDepth 20000
set_option maxHeartbeats 8000000
/- SpA -/
namespace Go.Proofs.Ytojcojanokhnaaa.Ab
open Go.RowKit

/-! ### The sorter -/
def rcV (rs : List Rn) (k : Nat) (p : Int) : Int := cond (decide (p < 0)) 0 (totV ((rs.getD k [])[p.toNat]?).toList)
def memV (s : So) : Int := cond (decide (s.ph = 1)) (totV s.heap + totV s.dfr) (cond (decide (s.ph = 2)) (cond (decide (s.lp < 0) || decide (s.rp < 0)) 0 (rcV s.runs 0 s.lp + rcV s.runs 1 s.rp)) (cond (decide (s.ph = 3)) (rcV s.runs 0 s.lp) 0))
def vBase (s : So) : Bool := avR s.input && (inV s.pos 0 s.input.length && (avS s.runs && (decide (0 ≤ s.wr) && (isoV s.out && s.heap.all fun r => !bel r s.out))))
def vRead (s : So) : Bool := decide (s.lp = 0) && (decide (s.rp = 0) && ((decide (0 < s.out.length) || decide (s.dfr.length = 0)) && (decide (memV s ≤ 60) && eqB (s.runs.flatten ++ s.out ++ s.heap ++ s.dfr) (s.input.take s.pos.toNat))))
def vRest (s : So) : Bool := decide (s.pos = s.input.length) && (decide (s.heap.length = 0) && (decide (s.dfr.length = 0) && eqB s.runs.flatten s.input))
def vMerge (s : So) : Bool := match s.runs with
  | a :: b :: _ => inV s.lp 0 a.length && (inV s.rp 0 b.length && (eqLd s.out (mgV (a.take s.lp.toNat) (b.take s.rp.toNat)) && eqLd s.out ((mgV a b).take (s.lp.toNat + s.rp.toNat))))
  | _ => false
def vEmit (s : So) : Bool := decide (s.runs.length = 1) && (inV s.lp 0 ((s.input.length : Int) - 1) && (decide (s.rp = 0) && decide (s.out.length = 0)))
def vDone (s : So) : Bool := decide (s.runs.length ≤ 1) && (decide (s.lp = s.input.length) && (decide (s.rp = 0) && decide (s.out.length = 0)))
def vS (s : So) : Bool := vBase s && cond (decide (s.ph = 1)) (vRead s) (vRest s && cond (decide (s.ph = 2)) (vMerge s) (cond (decide (s.ph = 3)) (vEmit s) (cond (decide (s.ph = 4)) (vDone s) false)))

def nextV (s : So) : So := { s with lp := 0, rp := 0, ph := cond (decide (s.runs.length = 0)) 4 (cond (decide (s.runs.length = 1)) 3 2) }
def endV (s : So) : So := { s with runs := s.runs ++ [s.out], out := [] }
def putV (s : So) (r : Rw) : So := cond (bel r s.out) { s with dfr := s.dfr ++ [r], pos := s.pos + 1 } { s with heap := s.heap ++ [r], pos := s.pos + 1 }
def popV (s : So) (k : Nat) (r : Rw) : So := { s with heap := s.heap.take k ++ s.heap.drop (k + 1), out := s.out ++ [r], wr := IntKind.i64.wrap (s.wr + costV r) }
def swapV (s : So) : So := { s with runs := s.runs ++ [s.out], out := [], heap := s.dfr, dfr := [] }
def endIf (s : So) : So := cond (decide (0 < s.out.length)) (endV s) s
def dropV (s : So) : So := { s with runs := s.runs.drop 2 ++ [s.out], out := [] }
def leftV (s : So) (r : Rw) : So := { s with out := s.out ++ [r], wr := IntKind.i64.wrap (s.wr + costV r), lp := s.lp + 1 }
def rightV (s : So) (r : Rw) : So := { s with out := s.out ++ [r], wr := IntKind.i64.wrap (s.wr + costV r), rp := s.rp + 1 }
def emitV (s : So) : So := { s with lp := s.lp + 1, ph := cond (decide (s.lp + 1 = s.input.length)) 4 3 }

/-- What a step makes of a valid sorter that is not done: the cases, one by one. -/
inductive StepV (s : So) (g : Int) : So → List Rw → Prop where
  | put {r : Rw} (hp : s.ph = 1) (hr : s.input[s.pos.toNat]? = some r) (hf : memV s + costV r ≤ g) : StepV s g (putV s r) []
  | pop {k : Nat} {r : Rw} (hp : s.ph = 1) (hf : ∀ r, s.input[s.pos.toNat]? = some r → g < memV s + costV r) (hh : 0 < s.heap.length) (hk : minV s.heap = (k : Nat)) (hr : s.heap[k]? = some r) : StepV s g (popV s k r) []
  | swap (hp : s.ph = 1) (hf : ∀ r, s.input[s.pos.toNat]? = some r → g < memV s + costV r) (hh : s.heap = []) (hd : 0 < s.dfr.length) : StepV s g (swapV s) []
  | close (hp : s.ph = 1) (hf : ∀ r, s.input[s.pos.toNat]? = some r → g < memV s + costV r) (hh : s.heap = []) (hd : s.dfr = []) : StepV s g (nextV (endIf s)) []
  | merged {a b : Rn} {rest : List Rn} (hp : s.ph = 2) (hr : s.runs = a :: b :: rest) (h1 : s.lp = a.length) (h2 : s.rp = b.length) : StepV s g (nextV (dropV s)) []
  | left {a b : Rn} {rest : List Rn} {r : Rw} (hp : s.ph = 2) (hr : s.runs = a :: b :: rest) (h1 : a[s.lp.toNat]? = some r) (h2 : ∀ q, b[s.rp.toNat]? = some q → leW r q) : StepV s g (leftV s r) []
  | right {a b : Rn} {rest : List Rn} {r : Rw} (hp : s.ph = 2) (hr : s.runs = a :: b :: rest) (h1 : b[s.rp.toNat]? = some r) (h2 : ∀ q, a[s.lp.toNat]? = some q → ¬ leW q r) : StepV s g (rightV s r) []
  | emit {a : Rn} {r : Rw} (hp : s.ph = 3) (hr : s.runs = [a]) (h1 : a[s.lp.toNat]? = some r) : StepV s g (emitV s) [r]
end Go.Proofs.Ytojcojanokhnaaa.Ab

/- SpB -/
namespace Go.Proofs.Ytojcojanokhnaaa.Ab
open Go.RowKit

instance : DecidableEq Rw := fun x y => decidable_of_iff (rwD x y = true) rwD_iff
theorem perm_c {xs ys : List Rw} : xs.Perm ys ↔ ∀ a, xs.count a = ys.count a := List.perm_iff_count

/-! ### Merging -/
theorem mg_perm : ∀ xs ys : List Rw, (mgV xs ys).Perm (xs ++ ys)
  | [], ys => by rw [mg_nil]; exact .refl _
  | x :: xs, [] => by rw [mg_nil2, List.append_nil]
  | x :: xs, y :: ys => by
    cases h : decide (cmpV x y ≤ 0) with
    | true => rw [mg_le h]; exact (mg_perm xs (y :: ys)).cons x
    | false =>
      rw [mg_gt h]
      exact ((mg_perm (x :: xs) ys).cons y).trans List.perm_middle.symm
termination_by xs ys => xs.length + ys.length
theorem mg_srt : ∀ {xs ys : List Rw}, Srt xs → Srt ys → Srt (mgV xs ys)
  | [], ys, _, h => by rw [mg_nil]; exact h
  | x :: xs, [], h, _ => by rw [mg_nil2]; exact h
  | x :: xs, y :: ys, hx, hy => by
    have hx' := List.pairwise_cons.1 hx
    have hy' := List.pairwise_cons.1 hy
    cases h : decide (cmpV x y ≤ 0) with
    | true =>
      have hle : leW x y := of_decide_eq_true h
      rw [mg_le h]
      refine List.pairwise_cons.2 ⟨fun z hz => ?_, mg_srt hx'.2 hy⟩
      rcases List.mem_append.1 ((mg_perm xs (y :: ys)).mem_iff.1 hz) with hz | hz
      · exact hx'.1 z hz
      · rcases List.mem_cons.1 hz with rfl | hz
        · exact hle
        · exact leW_trans hle (hy'.1 z hz)
    | false =>
      have hle : leW y x := leW_not (of_decide_eq_false h)
      rw [mg_gt h]
      refine List.pairwise_cons.2 ⟨fun z hz => ?_, mg_srt hx hy'.2⟩
      rcases List.mem_append.1 ((mg_perm (x :: xs) ys).mem_iff.1 hz) with hz | hz
      · rcases List.mem_cons.1 hz with rfl | hz
        · exact hle
        · exact leW_trans hle (hx'.1 z hz)
      · exact hy'.1 z hz
termination_by xs ys => xs.length + ys.length
theorem mg_eq {xs ys : List Rw} (hx : Srt xs) (hy : Srt ys) : mgV xs ys = srtV (xs ++ ys) := srtV_of (mg_srt hx hy) (mg_perm xs ys)
theorem srt_take {xs : List Rw} (h : Srt xs) (n : Nat) : Srt (xs.take n) := h.sublist (List.take_sublist n xs)
theorem srt_drop {xs : List Rw} (h : Srt xs) (n : Nat) : Srt (xs.drop n) := h.sublist (List.drop_sublist n xs)

/-- What a merge takes next. -/
theorem merge_next {S out D D' : List Rw} {r : Rw} (hS : Srt S) (ho : out = S.take out.length) (hp : (out ++ D).Perm S) (hD : D.Perm (r :: D')) (hr : ∀ z ∈ D', leW r z) : S.take (out.length + 1) = out ++ [r] := by
  have e : S = out ++ S.drop out.length := by
    have := List.take_append_drop out.length S
    rw [← ho] at this
    exact this.symm
  have hd : (S.drop out.length).Perm (r :: D') := by
    rw [perm_c] at *
    intro a
    have h1 := hp a
    have h2 := hD a
    rw [e] at h1
    simp only [List.count_append] at h1
    omega
  have hs : Srt (r :: srtV D') := List.pairwise_cons.2 ⟨fun z hz => hr z ((srtV_perm D').mem_iff.1 hz), srtV_srt D'⟩
  have e2 : S.drop out.length = r :: srtV D' := srt_unique (srt_drop hS _) hs (hd.trans ((srtV_perm D').symm.cons r))
  have e3 : S[out.length]? = some r := by
    have := congrArg (fun l => l[0]?) e2
    simp only [List.getElem?_drop, Nat.add_zero] at this
    exact this
  rw [List.take_add_one, e3, ← ho]
  rfl
theorem drop_le {xs : List Rw} {i : Nat} {r : Rw} (h : Srt xs) (hr : xs[i]? = some r) : ∀ z ∈ xs.drop i, leW r z := fun z hz => by
  obtain ⟨j, hj⟩ := List.getElem?_of_mem hz
  rw [List.getElem?_drop] at hj
  exact srt_le h (Nat.le_add_right i j) hr hj
theorem drop_le2 {xs : List Rw} {i : Nat} {r : Rw} (h : Srt xs) (hr : ∀ q, xs[i]? = some q → leW r q) : ∀ z ∈ xs.drop i, leW r z := fun z hz => by
  obtain ⟨j, hj⟩ := List.getElem?_of_mem hz
  rw [List.getElem?_drop] at hj
  have hlt := (List.getElem?_eq_some_iff.1 hj).1
  obtain ⟨q, hq⟩ : ∃ z, xs[i]? = some z := ⟨_, List.getElem?_eq_getElem (by omega)⟩
  exact leW_trans (hr q hq) (srt_le h (Nat.le_add_right i j) hq hj)
structure MgI (a b : Rn) (i j : Nat) (out : List Rw) : Prop where
  ha : i ≤ a.length
  hb : j ≤ b.length
  o1 : out = mgV (a.take i) (b.take j)
  o2 : out = (mgV a b).take (i + j)
theorem MgI.len {a b : Rn} {i j : Nat} {out : List Rw} (h : MgI a b i j out) : out.length = i + j := by
  have h1 := h.ha
  have h2 := h.hb
  rw [h.o1, mg_len, List.length_take, List.length_take]; omega
theorem mgi_left {a b : Rn} {i j : Nat} {out : List Rw} {r : Rw} (sa : Srt a) (sb : Srt b) (h : MgI a b i j out) (hr : a[i]? = some r) (hq : ∀ q, b[j]? = some q → leW r q) : MgI a b (i + 1) j (out ++ [r]) := by
  have hl := h.len
  have hlt := (List.getElem?_eq_some_iff.1 hr).1
  have p0 : out.Perm (a.take i ++ b.take j) := by have := mg_perm (a.take i) (b.take j); rw [← h.o1] at this; exact this
  have ea : a = a.take i ++ r :: a.drop (i + 1) := by rw [← take_drop1 hr, List.take_append_drop]
  have eb : b = b.take j ++ b.drop j := (List.take_append_drop _ _).symm
  have p1 : (out ++ (a.drop i ++ b.drop j)).Perm (mgV a b) := by
    refine List.Perm.trans ?_ (mg_perm a b).symm
    rw [perm_c] at *
    intro x
    have h1 := p0 x
    have h2 := congrArg (List.count x) ea
    have h3 := congrArg (List.count x) eb
    rw [take_drop1 hr]
    simp only [List.count_append, List.count_cons] at *
    omega
  have hn := merge_next (mg_srt sa sb) (by rw [hl]; exact h.o2) p1 (D' := a.drop (i + 1) ++ b.drop j) (r := r) (by rw [take_drop1 hr]; exact .refl _) (fun z hz => by
    rcases List.mem_append.1 hz with hz | hz
    · exact drop_le sa hr z (by rw [take_drop1 hr]; exact List.mem_cons_of_mem _ hz)
    · exact drop_le2 sb hq z hz)
  refine ⟨hlt, h.hb, ?_, by rw [← hn, hl]; congr 1; omega⟩
  rw [mg_eq (srt_take sa _) (srt_take sb _)]
  refine srtV_of (by rw [← hn]; exact srt_take (mg_srt sa sb) _) ?_
  rw [take_snoc hr]
  rw [perm_c] at *
  intro x
  have h1 := p0 x
  simp only [List.count_append] at *
  omega
theorem mgi_right {a b : Rn} {i j : Nat} {out : List Rw} {r : Rw} (sa : Srt a) (sb : Srt b) (h : MgI a b i j out) (hr : b[j]? = some r) (hq : ∀ q, a[i]? = some q → leW r q) : MgI a b i (j + 1) (out ++ [r]) := by
  have hl := h.len
  have hlt := (List.getElem?_eq_some_iff.1 hr).1
  have p0 : out.Perm (a.take i ++ b.take j) := by have := mg_perm (a.take i) (b.take j); rw [← h.o1] at this; exact this
  have eb : b = b.take j ++ r :: b.drop (j + 1) := by rw [← take_drop1 hr, List.take_append_drop]
  have ea : a = a.take i ++ a.drop i := (List.take_append_drop _ _).symm
  have p1 : (out ++ (a.drop i ++ b.drop j)).Perm (mgV a b) := by
    refine List.Perm.trans ?_ (mg_perm a b).symm
    rw [perm_c] at *
    intro x
    have h1 := p0 x
    have h2 := congrArg (List.count x) ea
    have h3 := congrArg (List.count x) eb
    rw [take_drop1 hr]
    simp only [List.count_append, List.count_cons] at *
    omega
  have hn := merge_next (mg_srt sa sb) (by rw [hl]; exact h.o2) p1 (D' := a.drop i ++ b.drop (j + 1)) (r := r) (by rw [take_drop1 hr]; exact List.perm_middle) (fun z hz => by
    rcases List.mem_append.1 hz with hz | hz
    · exact drop_le2 sa hq z hz
    · exact drop_le sb hr z (by rw [take_drop1 hr]; exact List.mem_cons_of_mem _ hz))
  refine ⟨h.ha, hlt, ?_, by rw [← hn, hl]; congr 1⟩
  rw [mg_eq (srt_take sa _) (srt_take sb _)]
  refine srtV_of (by rw [← hn]; exact srt_take (mg_srt sa sb) _) ?_
  rw [take_snoc hr]
  rw [perm_c] at *
  intro x
  have h1 := p0 x
  simp only [List.count_append] at *
  omega

/-! ### Validity, said -/
def RunOk (r : Rn) : Prop := r ≠ [] ∧ Srt r ∧ avR r = true
structure VBa (s : So) : Prop where
  input : avR s.input = true
  pos : ∃ p : Nat, s.pos = (p : Int) ∧ p ≤ s.input.length
  runs : ∀ r ∈ s.runs, RunOk r
  wr : 0 ≤ s.wr
  out : Srt s.out
  heap : ∀ x ∈ s.heap, bel x s.out = false
structure VRe (s : So) : Prop where
  ph : s.ph = 1
  lp : s.lp = 0
  rp : s.rp = 0
  dfr : s.dfr ≠ [] → s.out ≠ []
  mem : totV s.heap + totV s.dfr ≤ 60
  bag : (s.runs.flatten ++ s.out ++ s.heap ++ s.dfr).Perm (s.input.take s.pos.toNat)
structure VTe (s : So) : Prop where
  pos : s.pos = s.input.length
  heap : s.heap = []
  dfr : s.dfr = []
  bag : s.runs.flatten.Perm s.input
inductive VS (s : So) : Prop where
  | read (b : VBa s) (r : VRe s) : VS s
  | merge (b : VBa s) (t : VTe s) (ph : s.ph = 2) {x y : Rn} {rest : List Rn} {i j : Nat} (runs : s.runs = x :: y :: rest) (lp : s.lp = (i : Int)) (rp : s.rp = (j : Int)) (m : MgI x y i j s.out) : VS s
  | emit (b : VBa s) (t : VTe s) (ph : s.ph = 3) {x : Rn} {i : Nat} (runs : s.runs = [x]) (lp : s.lp = (i : Int)) (h : i < s.input.length) (rp : s.rp = 0) (out : s.out = []) : VS s
  | done (b : VBa s) (t : VTe s) (ph : s.ph = 4) (runs : s.runs.length ≤ 1) (lp : s.lp = s.input.length) (rp : s.rp = 0) (out : s.out = []) : VS s
theorem vBase_iff {s : So} : vBase s = true ↔ VBa s := by
  simp only [vBase, Bool.and_eq_true, inV_iff, decide_eq_true_eq, isoV, List.all_eq_true, avS, Bool.not_eq_true']
  constructor
  · rintro ⟨h1, h2, h3, h4, h5, h6⟩
    refine ⟨h1, ⟨s.pos.toNat, by omega, by omega⟩, fun r hr => ?_, h4, h5, h6⟩
    obtain ⟨a, b, c⟩ := h3 r hr
    refine ⟨?_, b, c⟩
    rintro rfl
    simp at a
  · rintro ⟨h1, ⟨p, h2, h2'⟩, h3, h4, h5, h6⟩
    refine ⟨h1, by omega, fun r hr => ?_, h4, h5, h6⟩
    obtain ⟨a, b, c⟩ := h3 r hr
    refine ⟨?_, b, c⟩
    simpa using a
theorem eqLd_t {xs ys : List Rw} : (eqLd xs ys = true) = (xs = ys) := propext eqLd_iff
theorem vS_iff {s : So} : vS s = true ↔ VS s := by
  unfold vS
  rw [Bool.and_eq_true, vBase_iff]
  constructor
  · rintro ⟨b, h⟩
    rcases Classical.em (s.ph = 1) with h1 | h1
    · rw [decide_eq_true h1, cond_true] at h
      simp only [vRead, Bool.and_eq_true, Bool.or_eq_true, decide_eq_true_eq, eqB_iff, memV, h1, decide_true, cond_true] at h
      obtain ⟨q1, q2, q3, q4, q5⟩ := h
      refine .read b ⟨h1, q1, q2, fun hd => ?_, q4, q5⟩
      rintro e
      rw [e] at q3
      rcases q3 with q3 | q3
      · simp at q3
      · exact hd (List.eq_nil_of_length_eq_zero q3)
    · rw [decide_eq_false h1, cond_false] at h
      simp only [vRest, Bool.and_eq_true, decide_eq_true_eq, eqB_iff] at h
      obtain ⟨⟨t1, t2, t3, t4⟩, h⟩ := h
      have t : VTe s := ⟨t1, List.eq_nil_of_length_eq_zero t2, List.eq_nil_of_length_eq_zero t3, t4⟩
      rcases Classical.em (s.ph = 2) with h2 | h2
      · rw [decide_eq_true h2, cond_true] at h
        unfold vMerge at h
        split at h
        · rename_i a b' rest hr
          simp only [Bool.and_eq_true, inV_iff, eqLd_t] at h
          obtain ⟨q1, q2, q3, q4⟩ := h
          exact .merge b t h2 hr (i := s.lp.toNat) (j := s.rp.toNat) (by omega) (by omega) ⟨by omega, by omega, q3, q4⟩
        · cases h
      · rw [decide_eq_false h2, cond_false] at h
        rcases Classical.em (s.ph = 3) with h3 | h3
        · rw [decide_eq_true h3, cond_true] at h
          simp only [vEmit, Bool.and_eq_true, inV_iff, decide_eq_true_eq] at h
          obtain ⟨q1, q2, q3, q4⟩ := h
          obtain ⟨x, hx⟩ := List.length_eq_one_iff.1 q1
          exact .emit b t h3 hx (i := s.lp.toNat) (by omega) (by omega) q3 (List.eq_nil_of_length_eq_zero q4)
        · rw [decide_eq_false h3, cond_false] at h
          rcases Classical.em (s.ph = 4) with h4 | h4
          · rw [decide_eq_true h4, cond_true] at h
            simp only [vDone, Bool.and_eq_true, decide_eq_true_eq] at h
            obtain ⟨q1, q2, q3, q4⟩ := h
            exact .done b t h4 q1 q2 q3 (List.eq_nil_of_length_eq_zero q4)
          · rw [decide_eq_false h4, cond_false] at h
            cases h
  · intro h
    cases h with
    | read b r =>
      refine ⟨b, ?_⟩
      rw [decide_eq_true r.ph, cond_true]
      simp only [vRead, Bool.and_eq_true, Bool.or_eq_true, decide_eq_true_eq, eqB_iff, memV, r.ph, decide_true, cond_true]
      refine ⟨r.lp, r.rp, ?_, r.mem, r.bag⟩
      rcases Classical.em (s.dfr = []) with e | e
      · right; rw [e]; rfl
      · left; exact List.length_pos_iff.2 (r.dfr e)
    | merge b t ph runs lp rp m =>
      refine ⟨b, ?_⟩
      have ht : vRest s = true := by simp only [vRest, Bool.and_eq_true, decide_eq_true_eq, eqB_iff]; exact ⟨t.pos, by rw [t.heap]; rfl, by rw [t.dfr]; rfl, t.bag⟩
      rw [decide_eq_false (by rw [ph]; decide), cond_false, ht, Bool.true_and, decide_eq_true ph, cond_true]
      have q1 := m.ha
      have q2 := m.hb
      simp only [vMerge, runs, Bool.and_eq_true, inV_iff, eqLd_t, lp, rp, Int.toNat_natCast]
      exact ⟨by omega, by omega, m.o1, m.o2⟩
    | emit b t ph runs lp h rp out =>
      refine ⟨b, ?_⟩
      have ht : vRest s = true := by simp only [vRest, Bool.and_eq_true, decide_eq_true_eq, eqB_iff]; exact ⟨t.pos, by rw [t.heap]; rfl, by rw [t.dfr]; rfl, t.bag⟩
      rw [decide_eq_false (by rw [ph]; decide), cond_false, ht, Bool.true_and, decide_eq_false (by rw [ph]; decide), cond_false, decide_eq_true ph, cond_true]
      simp only [vEmit, Bool.and_eq_true, inV_iff, decide_eq_true_eq]
      exact ⟨by rw [runs]; rfl, by omega, rp, by rw [out]; rfl⟩
    | done b t ph runs lp rp out =>
      refine ⟨b, ?_⟩
      have ht : vRest s = true := by simp only [vRest, Bool.and_eq_true, decide_eq_true_eq, eqB_iff]; exact ⟨t.pos, by rw [t.heap]; rfl, by rw [t.dfr]; rfl, t.bag⟩
      rw [decide_eq_false (by rw [ph]; decide), cond_false, ht, Bool.true_and, decide_eq_false (by rw [ph]; decide), cond_false, decide_eq_false (by rw [ph]; decide), cond_false, decide_eq_true ph, cond_true]
      simp only [vDone, Bool.and_eq_true, decide_eq_true_eq]
      exact ⟨runs, lp, rp, by rw [out]; rfl⟩
end Go.Proofs.Ytojcojanokhnaaa.Ab

/- SpC -/
namespace Go.Proofs.Ytojcojanokhnaaa.Ab
open Go.RowKit

theorem avR_iff {xs : List Rw} : avR xs = true ↔ (∀ x ∈ xs, vRw x = true) ∧ xs.length ≤ 24 := by
  simp only [avR, Bool.and_eq_true, List.all_eq_true, decide_eq_true_eq]
  constructor
  · rintro ⟨a, b⟩; exact ⟨a, by omega⟩
  · rintro ⟨a, b⟩; exact ⟨a, by omega⟩
/-- A step that is not read: the memory is full, or all is read. -/
def Stuck (s : So) (g : Int) : Prop := ∀ r, s.input[s.pos.toNat]? = some r → g < memV s + costV r

theorem step_ex {s : So} {g : Int} (hv : VS s) (hd : s.ph ≠ 4) : ∃ x r, StepV s g x r := by
  cases hv with
  | read b q =>
    rcases Classical.em (∃ r, s.input[s.pos.toNat]? = some r ∧ memV s + costV r ≤ g) with ⟨r, h1, h2⟩ | hn
    · exact ⟨_, _, .put q.ph h1 h2⟩
    · have hf : Stuck s g := fun r hr => Classical.byContradiction fun h => hn ⟨r, hr, by omega⟩
      rcases Nat.eq_zero_or_pos s.heap.length with h0 | h0
      · rcases Nat.eq_zero_or_pos s.dfr.length with d0 | d0
        · exact ⟨_, _, .close q.ph hf (List.eq_nil_of_length_eq_zero h0) (List.eq_nil_of_length_eq_zero d0)⟩
        · exact ⟨_, _, .swap q.ph hf (List.eq_nil_of_length_eq_zero h0) d0⟩
      · obtain ⟨k, y, h1, h2, _⟩ := minV_ok h0
        exact ⟨_, _, .pop q.ph hf h0 h1 h2⟩
  | @merge b t ph x y rest i j runs lp rp m =>
    have e1 : s.lp.toNat = i := by omega
    have e2 : s.rp.toNat = j := by omega
    rcases Classical.em (i = x.length) with h1 | h1
    · rcases Classical.em (j = y.length) with h2 | h2
      · exact ⟨_, _, .merged ph runs (by omega) (by omega)⟩
      · have := m.hb
        obtain ⟨r, hr⟩ : ∃ z, y[j]? = some z := ⟨_, List.getElem?_eq_getElem (by omega)⟩
        refine ⟨_, _, .right (r := r) ph runs (by rw [e2]; exact hr) (fun q hq => ?_)⟩
        rw [e1, h1, List.getElem?_eq_none (Nat.le_refl _)] at hq
        cases hq
    · have := m.ha
      obtain ⟨r, hr⟩ : ∃ z, x[i]? = some z := ⟨_, List.getElem?_eq_getElem (by omega)⟩
      rcases Classical.em (∀ q, y[j]? = some q → leW r q) with hq | hq
      · exact ⟨_, _, .left (r := r) ph runs (by rw [e1]; exact hr) (by rw [e2]; exact hq)⟩
      · obtain ⟨q, hq⟩ := Classical.not_forall.1 hq
        have h3 : y[j]? = some q := Classical.byContradiction fun h => hq fun h' => absurd h' h
        have h4 : ¬ leW r q := fun h => hq fun _ => h
        refine ⟨_, _, .right (r := q) ph runs (by rw [e2]; exact h3) (fun q' hq' => ?_)⟩
        rw [e1, hr] at hq'
        cases hq'
        exact h4
  | @emit b t ph x i runs lp h rp out =>
    have hb := t.bag.length_eq
    rw [runs] at hb
    simp at hb
    obtain ⟨r, hr⟩ : ∃ z, x[i]? = some z := ⟨_, List.getElem?_eq_getElem (by omega)⟩
    exact ⟨_, _, .emit ph runs (by rw [lp]; exact hr)⟩
  | done b t ph => exact absurd ph hd

/-- Behind the last row: the runs are merged, handed out, or there are none. -/
theorem next_valid {s : So} (b : VBa s) (t : VTe s) (ho : s.out = []) : VS (nextV s) := by
  have b' : VBa (nextV s) := ⟨b.input, b.pos, b.runs, b.wr, b.out, b.heap⟩
  have t' : VTe (nextV s) := ⟨t.pos, t.heap, t.dfr, t.bag⟩
  match hr : s.runs with
  | [] =>
    have hb := t.bag.length_eq
    rw [hr] at hb
    simp at hb
    refine .done b' t' (by simp [nextV, hr]) (by simp [nextV, hr]) ?_ rfl ho
    show (0 : Int) = s.input.length
    omega
  | [x] =>
    have hb := t.bag.length_eq
    rw [hr] at hb
    simp at hb
    have hx : x ≠ [] := (b.runs x (by rw [hr]; simp)).1
    have := List.length_pos_iff.2 hx
    exact .emit b' t' (by simp [nextV, hr]) hr (i := 0) rfl (by show 0 < s.input.length; omega) rfl ho
  | x :: y :: rest =>
    refine .merge b' t' ?_ hr (i := 0) (j := 0) rfl rfl ⟨Nat.zero_le _, Nat.zero_le _, ?_, ?_⟩
    · show cond (decide (s.runs.length = 0)) 4 (cond (decide (s.runs.length = 1)) 3 2) = 2
      rw [hr, decide_eq_false (by simp), decide_eq_false (by simp)]; rfl
    · show s.out = mgV [] []
      rw [mg_nil]; exact ho
    · exact ho
theorem take_all {xs : List Rw} {p : Int} (h : p = xs.length) : xs.take p.toNat = xs := by rw [h]; simp
theorem bag_mem {s : So} (h : (s.runs.flatten ++ s.out ++ s.heap ++ s.dfr).Perm (s.input.take s.pos.toNat)) {x : Rw} (hx : x ∈ s.out) : x ∈ s.input :=
  List.mem_of_mem_take (h.mem_iff.1 (by simp [hx]))
theorem bag_len {s : So} (h : (s.runs.flatten ++ s.out ++ s.heap ++ s.dfr).Perm (s.input.take s.pos.toNat)) : s.out.length + s.heap.length + s.dfr.length ≤ s.input.length := by
  have := h.length_eq
  simp only [List.length_append, List.length_take] at this
  omega
/-- The current run, when it ends. -/
theorem out_ok {s : So} (b : VBa s) (q : VRe s) (h : s.out ≠ []) : RunOk s.out := by
  refine ⟨h, b.out, avR_iff.2 ⟨fun x hx => (avR_iff.1 b.input).1 x (bag_mem q.bag hx), ?_⟩⟩
  have := bag_len q.bag
  have := (avR_iff.1 b.input).2
  omega
theorem mem_r {s : So} (q : s.ph = 1) : memV s = totV s.heap + totV s.dfr := by simp [memV, q]
theorem stuck_all {s : So} {g : Int} (b : VBa s) (q : VRe s) (hg : 8 ≤ g) (hf : Stuck s g) (hh : s.heap = []) (hd : s.dfr = []) : s.pos = s.input.length := by
  obtain ⟨p, hp, hle⟩ := b.pos
  have hm : memV s = 0 := by rw [mem_r q.ph, hh, hd]; rfl
  rcases Nat.lt_or_ge p s.input.length with hlt | hge
  · exfalso
    have := hf _ (show s.input[s.pos.toNat]? = some _ from by rw [hp, Int.toNat_natCast]; exact List.getElem?_eq_getElem hlt)
    have := cost_b s.input[p]
    omega
  · omega
theorem wrap_w {w c : Int} (h0 : 0 ≤ w) (h1 : w ≤ 4611686018427387904) (c0 : 0 ≤ c) (c1 : c ≤ 4) : IntKind.i64.wrap (w + c) = w + c := by rw [IntKind.wrap_i64]; omega
theorem step_valid {s x : So} {g : Int} {r : List Rw} (hv : VS s) (hg : 8 ≤ g) (hg2 : g ≤ 60) (hw : s.wr ≤ 4611686018427387904) (h : StepV s g x r) : VS x := by
  cases h with
  | @put r hp hr hf =>
    cases hv with
    | read b q =>
      obtain ⟨p, hpp, hle⟩ := b.pos
      have e : s.pos.toNat = p := by omega
      rw [e] at hr
      have hlt := (List.getElem?_eq_some_iff.1 hr).1
      have ew : (s.pos + 1).toNat = p + 1 := by omega
      have hm := mem_r q.ph
      have bg := q.bag
      rw [e] at bg
      unfold putV
      cases hb : bel r s.out with
      | true =>
        rw [cond_true]
        refine .read ⟨b.input, ⟨p + 1, by simp only; omega, hlt⟩, b.runs, b.wr, b.out, b.heap⟩ ⟨hp, q.lp, q.rp, fun _ he => ?_, ?_, ?_⟩
        · simp only at he
          rw [he] at hb
          cases hb
        · simp only [totV_app, totV]; omega
        · simp only [ew]
          rw [take_snoc hr, ← List.append_assoc]
          exact bg.append_right [r]
      | false =>
        rw [cond_false]
        refine .read ⟨b.input, ⟨p + 1, by simp only; omega, hlt⟩, b.runs, b.wr, b.out, fun y hy => ?_⟩ ⟨hp, q.lp, q.rp, q.dfr, ?_, ?_⟩
        · simp only at hy ⊢
          rcases List.mem_append.1 hy with hy | hy
          · exact b.heap y hy
          · have : y = r := by simpa using hy
            rw [this]; exact hb
        · simp only [totV_app, totV]; omega
        · simp only [ew]
          rw [take_snoc hr]
          rw [perm_c] at *
          intro a
          have := bg a
          simp only [List.count_append] at *
          omega
    | merge b t ph => rw [hp] at ph; cases ph
    | emit b t ph => rw [hp] at ph; cases ph
    | done b t ph => rw [hp] at ph; cases ph
  | @pop k r hp hf hh hk hr =>
    cases hv with
    | read b q =>
      obtain ⟨k', y, m1, m2, m3⟩ := minV_ok hh
      obtain rfl : k' = k := by rw [hk] at m1; omega
      rw [hr] at m2
      cases m2
      have hb := b.heap r (List.mem_of_getElem? hr)
      have hp1 := take_perm hr
      have bg := q.bag
      have c := cost_b r
      have e := totV_perm hp1
      simp only [totV_app, totV] at e
      have hmem : ∀ z, z ∈ s.heap.take k' ++ s.heap.drop (k' + 1) → z ∈ s.heap := fun z hz => hp1.mem_iff.1 (List.mem_append_left _ hz)
      refine .read ⟨b.input, b.pos, b.runs, ?_, srt_snoc b.out hb, fun y hy => ?_⟩ ⟨hp, q.lp, q.rp, fun _ he => ?_, ?_, ?_⟩
      · simp only [popV]
        rw [wrap_w b.wr hw c.1 c.2]
        have := b.wr
        omega
      · simp only [popV] at hy ⊢
        rw [bel_snoc]
        exact decide_eq_false (fun h => absurd (m3 y (hmem y hy)) (cmp_neg.1 h))
      · simp [popV] at he
      · have := q.mem
        simp only [popV, totV_app]; omega
      · simp only [popV]
        rw [perm_c] at *
        intro a
        have := bg a
        have := hp1 a
        simp only [List.count_append] at *
        omega
    | merge b t ph => rw [hp] at ph; cases ph
    | emit b t ph => rw [hp] at ph; cases ph
    | done b t ph => rw [hp] at ph; cases ph
  | swap hp hf hh hd =>
    cases hv with
    | read b q =>
      have hd' : s.dfr ≠ [] := List.ne_nil_of_length_pos hd
      have ho := out_ok b q (q.dfr hd')
      have bg := q.bag
      refine .read ⟨b.input, b.pos, fun r hr => ?_, b.wr, List.Pairwise.nil, fun y hy => rfl⟩ ⟨hp, q.lp, q.rp, fun h => absurd rfl h, ?_, ?_⟩
      · simp only [swapV] at hr
        rcases List.mem_append.1 hr with hr | hr
        · exact b.runs r hr
        · have : r = s.out := by simpa using hr
          rw [this]; exact ho
      · have := q.mem
        rw [hh] at this
        simp only [swapV, totV] at this ⊢
        omega
      · simp only [swapV]
        rw [perm_c] at *
        intro a
        have := bg a
        rw [hh] at this
        simp only [List.count_append, List.flatten_append, List.flatten_cons, List.flatten_nil, List.append_nil] at *
        omega
    | merge b t ph => rw [hp] at ph; cases ph
    | emit b t ph => rw [hp] at ph; cases ph
    | done b t ph => rw [hp] at ph; cases ph
  | close hp hf hh hd =>
    cases hv with
    | read b q =>
      have hpos := stuck_all b q hg hf hh hd
      have bg := q.bag
      rw [take_all hpos, hh, hd, List.append_nil, List.append_nil] at bg
      unfold endIf
      rcases Nat.eq_zero_or_pos s.out.length with h0 | h0
      · rw [decide_eq_false (by omega), cond_false]
        have ho := List.eq_nil_of_length_eq_zero h0
        rw [ho, List.append_nil] at bg
        exact next_valid b ⟨hpos, hh, hd, bg⟩ ho
      · rw [decide_eq_true h0, cond_true]
        have ho := out_ok b q (List.ne_nil_of_length_pos h0)
        refine next_valid ⟨b.input, b.pos, fun r hr => ?_, b.wr, List.Pairwise.nil, fun y hy => rfl⟩ ⟨hpos, hh, hd, ?_⟩ rfl
        · simp only [endV] at hr
          rcases List.mem_append.1 hr with hr | hr
          · exact b.runs r hr
          · have : r = s.out := by simpa using hr
            rw [this]; exact ho
        · simp only [endV, List.flatten_append, List.flatten_cons, List.flatten_nil, List.append_nil]
          exact bg
    | merge b t ph => rw [hp] at ph; cases ph
    | emit b t ph => rw [hp] at ph; cases ph
    | done b t ph => rw [hp] at ph; cases ph
  | @merged a c rest hp hr h1 h2 =>
    cases hv with
    | read b q => rw [q.ph] at hp; cases hp
    | @merge b t ph x y rest' i j runs lp rp m =>
      rw [hr] at runs
      cases runs
      have e1 : i = a.length := by omega
      have e2 : j = c.length := by omega
      subst e1 e2
      have bg := t.bag
      rw [hr] at bg
      have o1 := m.o1
      rw [List.take_length, List.take_length] at o1
      have oa := b.runs a (by rw [hr]; simp)
      have oc := b.runs c (by rw [hr]; simp)
      have po : s.out.Perm (a ++ c) := by rw [o1]; exact mg_perm a c
      have hin : ∀ z ∈ s.out, z ∈ s.input := fun z hz => bg.mem_iff.1 (by
        have := po.mem_iff.1 hz
        simp only [List.flatten_cons, List.mem_append] at this ⊢
        rcases this with h | h
        · exact Or.inl h
        · exact Or.inr (Or.inl h))
      have hlen : s.out.length ≤ s.input.length := by
        have q1 := bg.length_eq
        have q2 := po.length_eq
        simp only [List.flatten_cons, List.length_append] at q1 q2
        omega
      have ed : s.runs.drop 2 = rest := by rw [hr]; rfl
      refine next_valid ⟨b.input, b.pos, fun r hr' => ?_, b.wr, List.Pairwise.nil, fun y hy => rfl⟩ ⟨t.pos, t.heap, t.dfr, ?_⟩ rfl
      · simp only [dropV, ed] at hr'
        rcases List.mem_append.1 hr' with hr' | hr'
        · exact b.runs r (by rw [hr]; simp [hr'])
        · have : r = s.out := by simpa using hr'
          rw [this]
          refine ⟨?_, by rw [o1]; exact mg_srt oa.2.1 oc.2.1, avR_iff.2 ⟨fun z hz => (avR_iff.1 b.input).1 z (hin z hz), by have := (avR_iff.1 b.input).2; omega⟩⟩
          intro he
          have := po.length_eq
          rw [he] at this
          have := List.length_pos_iff.2 oa.1
          simp only [List.length_append, List.length_nil] at *
          omega
      · simp only [dropV, ed]
        rw [perm_c] at *
        intro z
        have := bg z
        have := po z
        simp only [List.count_append, List.flatten_append, List.flatten_cons, List.flatten_nil, List.append_nil] at *
        omega
    | emit b t ph => rw [hp] at ph; cases ph
    | done b t ph => rw [hp] at ph; cases ph
  | @left a c rest r hp hr h1 h2 =>
    cases hv with
    | read b q => rw [q.ph] at hp; cases hp
    | @merge b t ph x y rest' i j runs lp rp m =>
      rw [hr] at runs
      cases runs
      rw [show s.lp.toNat = i by omega] at h1
      rw [show s.rp.toNat = j by omega] at h2
      have hlt := (List.getElem?_eq_some_iff.1 h1).1
      have q := mgi_left (b.runs a (by rw [hr]; simp)).2.1 (b.runs c (by rw [hr]; simp)).2.1 m h1 h2
      have cb := cost_b r
      refine .merge ⟨b.input, b.pos, b.runs, ?_, ?_, ?_⟩ ⟨t.pos, t.heap, t.dfr, t.bag⟩ hp hr (i := i + 1) (j := j) ?_ rp q
      · simp only [leftV]; rw [wrap_w b.wr hw cb.1 cb.2]; have := b.wr; omega
      · have := q.o2
        simp only [leftV]
        rw [this]
        exact srt_take (mg_srt (b.runs a (by rw [hr]; simp)).2.1 (b.runs c (by rw [hr]; simp)).2.1) _
      · simp only [leftV]; rw [t.heap]; intro z hz; cases hz
      · simp only [leftV]; omega
    | emit b t ph => rw [hp] at ph; cases ph
    | done b t ph => rw [hp] at ph; cases ph
  | @right a c rest r hp hr h1 h2 =>
    cases hv with
    | read b q => rw [q.ph] at hp; cases hp
    | @merge b t ph x y rest' i j runs lp rp m =>
      rw [hr] at runs
      cases runs
      rw [show s.rp.toNat = j by omega] at h1
      rw [show s.lp.toNat = i by omega] at h2
      have hlt := (List.getElem?_eq_some_iff.1 h1).1
      have q := mgi_right (b.runs a (by rw [hr]; simp)).2.1 (b.runs c (by rw [hr]; simp)).2.1 m h1 (fun q hq => leW_not (h2 q hq))
      have cb := cost_b r
      refine .merge ⟨b.input, b.pos, b.runs, ?_, ?_, ?_⟩ ⟨t.pos, t.heap, t.dfr, t.bag⟩ hp hr (i := i) (j := j + 1) lp ?_ q
      · simp only [rightV]; rw [wrap_w b.wr hw cb.1 cb.2]; have := b.wr; omega
      · have := q.o2
        simp only [rightV]
        rw [this]
        exact srt_take (mg_srt (b.runs a (by rw [hr]; simp)).2.1 (b.runs c (by rw [hr]; simp)).2.1) _
      · simp only [rightV]; rw [t.heap]; intro z hz; cases hz
      · simp only [rightV]; omega
    | emit b t ph => rw [hp] at ph; cases ph
    | done b t ph => rw [hp] at ph; cases ph
  | @emit a r hp hr h1 =>
    cases hv with
    | read b q => rw [q.ph] at hp; cases hp
    | merge b t ph => rw [hp] at ph; cases ph
    | @emit b t ph x i runs lp hi rp out =>
      have b' : VBa (emitV s) := ⟨b.input, b.pos, b.runs, b.wr, b.out, b.heap⟩
      have t' : VTe (emitV s) := ⟨t.pos, t.heap, t.dfr, t.bag⟩
      rcases Classical.em (s.lp + 1 = s.input.length) with e | e
      · refine .done b' t' ?_ ?_ e rp out
        · show cond (decide (s.lp + 1 = s.input.length)) 4 3 = 4
          rw [decide_eq_true e]; rfl
        · show s.runs.length ≤ 1
          rw [runs]; simp
      · refine .emit b' t' ?_ runs (i := i + 1) ?_ ?_ rp out
        · show cond (decide (s.lp + 1 = s.input.length)) 4 3 = 3
          rw [decide_eq_false e]; rfl
        · show s.lp + 1 = _
          omega
        · show i + 1 < s.input.length
          omega
    | done b t ph => rw [hp] at ph; cases ph
end Go.Proofs.Ytojcojanokhnaaa.Ab

/- SpD -/
namespace Go.Proofs.Ytojcojanokhnaaa.Ab
open Go.RowKit

/-! ### Memory -/
theorem rc_b (rs : List Rn) (k : Nat) (p : Int) : 0 ≤ rcV rs k p ∧ rcV rs k p ≤ 4 := by
  unfold rcV
  cases decide (p < 0) with
  | true => simp
  | false =>
    rw [cond_false]
    cases (rs.getD k [])[p.toNat]? with
    | none => simp [totV]
    | some x => have := cost_b x; simp only [Option.toList_some, totV]; omega
theorem mem_np {s : So} (h : s.ph ≠ 1) : 0 ≤ memV s ∧ memV s ≤ 8 := by
  unfold memV
  rw [decide_eq_false h, cond_false]
  have h0 := rc_b s.runs 0 s.lp
  have h1 := rc_b s.runs 1 s.rp
  cases decide (s.ph = 2) with
  | true =>
    rw [cond_true]
    cases (decide (s.lp < 0) || decide (s.rp < 0)) with
    | true => simp
    | false => simp only [cond_false]; omega
  | false =>
    rw [cond_false]
    cases decide (s.ph = 3) with
    | true => simp only [cond_true]; omega
    | false => simp
theorem mem_nn (s : So) : 0 ≤ memV s := by
  rcases Classical.em (s.ph = 1) with h | h
  · rw [mem_r h]; have := tot_b s.heap; have := tot_b s.dfr; omega
  · exact (mem_np h).1
theorem ph_next (s : So) : (nextV s).ph ≠ 1 := by
  show cond (decide (s.runs.length = 0)) 4 (cond (decide (s.runs.length = 1)) 3 2) ≠ (1 : Int)
  cases decide (s.runs.length = 0) <;> cases decide (s.runs.length = 1) <;> decide
theorem ph_emit (s : So) : (emitV s).ph ≠ 1 := by
  show cond (decide (s.lp + 1 = s.input.length)) 4 3 ≠ (1 : Int)
  cases decide (s.lp + 1 = s.input.length) <;> decide
theorem put_mem (s : So) (r : Rw) (h : s.ph = 1) : memV (putV s r) = memV s + costV r := by
  rw [mem_r h]
  unfold putV
  cases bel r s.out with
  | true => rw [cond_true, mem_r (by exact h)]; simp only [totV_app, totV]; omega
  | false => rw [cond_false, mem_r (by exact h)]; simp only [totV_app, totV]; omega
theorem pop_mem {s : So} {k : Nat} {r : Rw} (h : s.ph = 1) (hr : s.heap[k]? = some r) : memV (popV s k r) = memV s - costV r := by
  rw [mem_r h, mem_r (by exact h)]
  have e := totV_perm (take_perm hr)
  simp only [totV_app, totV] at e
  simp only [popV, totV_app]; omega
theorem swap_mem {s : So} (h : s.ph = 1) (hh : s.heap = []) : memV (swapV s) = memV s := by
  rw [mem_r h, mem_r (by exact h), hh]
  simp only [swapV, totV]; omega
theorem step_mem {s x : So} {g : Int} {r : List Rw} (hg : 8 ≤ g) (h : StepV s g x r) : memV x ≤ max (memV s) g := by
  cases h with
  | put hp hr hf => rw [put_mem _ _ hp]; omega
  | @pop k r hp hf hh hk hr => rw [pop_mem hp hr]; have := cost_b r; omega
  | swap hp hf hh hd => rw [swap_mem hp hh]; omega
  | close hp hf hh hd => have := mem_np (ph_next (endIf s)); omega
  | merged hp hr h1 h2 => have := mem_np (ph_next (dropV s)); omega
  | @left a b rest r hp hr h1 h2 => have := mem_np (s := leftV s r) (by show s.ph ≠ 1; rw [hp]; decide); omega
  | @right a b rest r hp hr h1 h2 => have := mem_np (s := rightV s r) (by show s.ph ≠ 1; rw [hp]; decide); omega
  | emit hp hr h1 => have := mem_np (ph_emit s); omega

/-! ### What a step keeps -/
theorem put_input (s : So) (r : Rw) : (putV s r).input = s.input ∧ (putV s r).pos = s.pos + 1 ∧ (putV s r).wr = s.wr ∧ (putV s r).ph = s.ph ∧ (putV s r).runs = s.runs ∧ (putV s r).out = s.out ∧ (putV s r).lp = s.lp := by
  unfold putV; cases bel r s.out <;> exact ⟨rfl, rfl, rfl, rfl, rfl, rfl, rfl⟩
theorem endIf_input (s : So) : (endIf s).input = s.input ∧ (endIf s).pos = s.pos ∧ (endIf s).wr = s.wr := by
  unfold endIf; cases decide (0 < s.out.length) <;> exact ⟨rfl, rfl, rfl⟩
theorem step_input {s x : So} {g : Int} {r : List Rw} (h : StepV s g x r) : x.input = s.input := by
  cases h with
  | @put r => exact (put_input s r).1
  | close => exact (endIf_input s).1
  | pop | swap | merged | left | right | emit => rfl
theorem step_pos {s x : So} {g : Int} {r : List Rw} (h : StepV s g x r) : s.pos ≤ x.pos := by
  cases h with
  | @put r => rw [(put_input s r).2.1]; omega
  | close => exact Int.le_of_eq (endIf_input s).2.1.symm
  | pop | swap | merged | left | right | emit => exact Int.le_refl _
theorem step_wr {s x : So} {g : Int} {r : List Rw} (h : StepV s g x r) (h0 : 0 ≤ s.wr) (hw : s.wr ≤ 4611686018427387904) : s.wr ≤ x.wr ∧ x.wr ≤ s.wr + 4 := by
  cases h with
  | @put r => rw [(put_input s r).2.2.1]; omega
  | close => rw [show (nextV (endIf s)).wr = s.wr from (endIf_input s).2.2]; omega
  | @pop k r => have c := cost_b r; simp only [popV]; rw [wrap_w h0 hw c.1 c.2]; omega
  | swap => simp only [swapV]; omega
  | merged => simp only [nextV, dropV]; omega
  | @left a b rest r => have c := cost_b r; simp only [leftV]; rw [wrap_w h0 hw c.1 c.2]; omega
  | @right a b rest r => have c := cost_b r; simp only [rightV]; rw [wrap_w h0 hw c.1 c.2]; omega
  | emit => simp only [emitV]; omega
theorem step_len {s x : So} {g : Int} {r : List Rw} (h : StepV s g x r) : r.length ≤ 1 := by
  cases h <;> simp
def remV (s : So) : Int := cond (decide (s.ph = 3) || decide (s.ph = 4)) (s.input.length - s.lp) s.input.length
theorem rem_12 {s : So} (h3 : s.ph ≠ 3) (h4 : s.ph ≠ 4) : remV s = s.input.length := by
  simp [remV, h3, h4]
theorem rem_3 {s : So} (h : s.ph = 3) : remV s = s.input.length - s.lp := by simp [remV, h]
theorem rem_4 {s : So} (h : s.ph = 4) : remV s = s.input.length - s.lp := by simp [remV, h]
theorem rem_next (s : So) : remV (nextV s) = s.input.length := by
  unfold remV
  show cond _ ((s.input.length : Int) - 0) (s.input.length : Int) = _
  cases (decide ((nextV s).ph = 3) || decide ((nextV s).ph = 4)) <;> simp
theorem step_remV {s x : So} {g : Int} {r : List Rw} (h : StepV s g x r) : remV x = remV s - r.length := by
  cases h with
  | @put r hp =>
    obtain ⟨e1, _, _, e2, _⟩ := put_input s r
    rw [rem_12 (by rw [e2, hp]; decide) (by rw [e2, hp]; decide), rem_12 (by rw [hp]; decide) (by rw [hp]; decide), e1]; simp
  | @pop k r hp =>
    rw [rem_12 (s := popV s k r) (by show s.ph ≠ 3; rw [hp]; decide) (by show s.ph ≠ 4; rw [hp]; decide), rem_12 (by rw [hp]; decide) (by rw [hp]; decide)]; simp [popV]
  | swap hp =>
    rw [rem_12 (s := swapV s) (by show s.ph ≠ 3; rw [hp]; decide) (by show s.ph ≠ 4; rw [hp]; decide), rem_12 (by rw [hp]; decide) (by rw [hp]; decide)]; simp [swapV]
  | close hp =>
    rw [rem_next, (endIf_input s).1, rem_12 (by rw [hp]; decide) (by rw [hp]; decide)]; simp
  | merged hp =>
    rw [rem_next, rem_12 (by rw [hp]; decide) (by rw [hp]; decide)]; simp [dropV]
  | @left a b rest r hp =>
    rw [rem_12 (s := leftV s r) (by show s.ph ≠ 3; rw [hp]; decide) (by show s.ph ≠ 4; rw [hp]; decide), rem_12 (by rw [hp]; decide) (by rw [hp]; decide)]; simp [leftV]
  | @right a b rest r hp =>
    rw [rem_12 (s := rightV s r) (by show s.ph ≠ 3; rw [hp]; decide) (by show s.ph ≠ 4; rw [hp]; decide), rem_12 (by rw [hp]; decide) (by rw [hp]; decide)]; simp [rightV]
  | emit hp hr h1 =>
    rw [rem_3 hp]
    have e : remV (emitV s) = s.input.length - (s.lp + 1) := by
      rcases Classical.em (s.lp + 1 = s.input.length) with h | h
      · exact rem_4 (s := emitV s) (by show cond (decide (s.lp + 1 = s.input.length)) 4 3 = 4; rw [decide_eq_true h]; rfl)
      · exact rem_3 (s := emitV s) (by show cond (decide (s.lp + 1 = s.input.length)) 4 3 = 3; rw [decide_eq_false h]; rfl)
    rw [e]; simp; omega

/-! ### A smaller grant -/
inductive Fits (g : Int) : So → Nat → So → Prop where
  | stop {s : So} (h : memV s ≤ g) : Fits g s 0 s
  | step {s x y : So} {r : List Rw} {n : Nat} (h : g < memV s) (st : StepV s g x r) (f : Fits g x n y) : Fits g s (n + 1) y
def bufN (s : So) : Nat := s.heap.length + s.dfr.length + cond (decide (s.dfr.length = 0)) 0 1
theorem bufN_le (s : So) : bufN s ≤ s.heap.length + s.dfr.length + 1 := by
  unfold bufN; cases decide (s.dfr.length = 0) <;> simp
theorem fits_ex {g : Int} (hg : 8 ≤ g) (hg2 : g ≤ 60) : ∀ (n : Nat) {s : So}, bufN s ≤ n → VS s → s.wr + 4 * n ≤ 4611686018427387904 → ∃ m y, Fits g s m y ∧ m ≤ n
  | n, s, hn, hv, hw => by
    rcases Int.lt_or_le g (memV s) with h | h
    · have h1 : s.ph = 1 := Classical.byContradiction fun h1 => by have := (mem_np h1).2; omega
      obtain ⟨x, r, hs⟩ := step_ex (g := g) hv (by rw [h1]; decide)
      have hv' := step_valid hv hg hg2 (by omega) hs
      have w0 : 0 ≤ s.wr := by cases hv with
        | read b => exact b.wr
        | merge b => exact b.wr
        | emit b => exact b.wr
        | done b => exact b.wr
      have hw' := step_wr hs w0 (by omega)
      have key : bufN x + 1 ≤ bufN s := by
        cases hs with
        | @put r hp hr hf => have := cost_b r; omega
        | @pop k r hp hf hh hk hr =>
          have := (List.getElem?_eq_some_iff.1 hr).1
          have e1 : (popV s k r).heap.length + 1 = s.heap.length := by simp only [popV, List.length_append, List.length_take, List.length_drop]; omega
          unfold bufN
          rw [show (popV s k r).dfr = s.dfr from rfl]
          omega
        | swap hp hf hh hd =>
          simp only [bufN, swapV, hh, List.length_nil, decide_true, cond_true, decide_eq_false (show ¬ s.dfr.length = 0 by omega), cond_false]; omega
        | close hp hf hh hd => rw [mem_r h1, hh, hd] at h; simp only [totV] at h; omega
        | merged hp => rw [h1] at hp; cases hp
        | left hp => rw [h1] at hp; cases hp
        | right hp => rw [h1] at hp; cases hp
        | emit hp => rw [h1] at hp; cases hp
      cases n with
      | zero => omega
      | succ n =>
        obtain ⟨m, y, f, hm⟩ := fits_ex hg hg2 n (s := x) (by omega) hv' (by omega)
        exact ⟨m + 1, y, .step h hs f, by omega⟩
    · exact ⟨0, s, .stop h, Nat.zero_le _⟩
end Go.Proofs.Ytojcojanokhnaaa.Ab
