/- What the row FnRevocation leans on, part 4: a walk over abstract values, and contracts proved with it. -/
import Derived.WalkKit
import Derived.Laws.Rows
import Derived.RowKit
import Derived.OrdersHeld
import Derived.Deep.RegionHeld3
import Derived.Deep.Draws
import Derived.BigCall
import Derived.KernelRfl
import Derived.Deep.Slices
import Derived.ChangeArms
import Derived.ChangeShapes
import Derived.WideShapes
import Derived.Test.YtojcojanokhnaaaProg
import Derived.Laws.StructEq
import Derived.Lib.Overlaps
import Derived.Test.YtojcojanokhnaaaZw2
set_option linter.unusedVariables false
set_option linter.unusedSimpArgs false
set_option maxRecDepth 20000
set_option maxHeartbeats 8000000
namespace Go.Proofs.Ytojcojanokhnaaa.Ab
open Go.RowKit
theorem vJ (rs : List Rn) : rs.flatten.length = tot rs := by rw [List.length_flatten]; rfl
theorem wk {rs : List Rn} {i : Nat} {z : Rn} (hz : rs[i]? = some z) : (rs.take (i + 1)).flatten = (rs.take i).flatten ++ z := by
  rw [yo hz]; simp
theorem mL (rs : List Rn) (hok : tZ rs) (ht : tot rs ≤ 100000000) : zy Go.Proofs.Try.prog 85 [rnL rs] [] (.sl 0 0 rs.flatten.length) [rwR rs.flatten] false := by
  have hl := hok.1
  refine zw [2] Go.Proofs.Try.func85 rfl rfl ?_
  simp only [Go.Proofs.Try.ntmps85, List.length_cons, List.length_nil, Nat.reduceAdd, Nat.reduceSub, List.replicate_succ, List.replicate_zero, List.cons_append, List.nil_append]
  repeat' first | refine zK ?_ | refine zA ?_ | refine zL [] ?_ | (refine isA ?_; refine zf rfl ?_) | (refine isL ?_; refine zU rfl (by kernel_rfl) rfl rfl ?_) | (refine zb rfl ?_; refine zT rfl (by kernel_rfl) rfl rfl ?_) | refine zD ?_ | refine zB _ rfl (by kernel_rfl) ?_ | refine zV rfl ?_ | refine zW rfl ?_ | refine zC ?_ | with_reducible refine zO ?_ | refine zH ?_ | refine zI ?_ | (with_reducible first | refine zM ?_ | refine zN ?_ | refine zE ?_ | refine zG ?_ | refine zF ?_) | refine zP ?_
  refine z9 (α := { i : Nat // i ≤ rs.length }) (fun i => ⟨[rnL rs, .any, .any, .sl 0 0 (rs.take i.1).flatten.length, I i.1, .any, .any, .any, .any, .any, .any, .any, .any, .any, .any, .any, .any, .any, .any, .any], [rwR (rs.take i.1).flatten], 0⟩) (fun i => rs.length - i.1) ⟨0, Nat.zero_le _⟩ ?_ ?_
  · exact w4 rfl (by repeat' first | exact EqS.nil | refine EqS.any ?_ | refine EqS.same rfl ?_)
  · rintro ⟨i, hi⟩
    repeat' first | refine zK ?_ | refine zA ?_ | refine zL [] ?_ | (refine isA ?_; refine zf rfl ?_) | (refine isL ?_; refine zU rfl (by kernel_rfl) rfl rfl ?_) | (refine zb rfl ?_; refine zT rfl (by kernel_rfl) rfl rfl ?_) | refine zD ?_ | refine zB _ rfl (by kernel_rfl) ?_ | refine zV rfl ?_ | refine zW rfl ?_ | refine zC ?_ | with_reducible refine zO ?_ | refine zH ?_ | refine zI ?_ | (with_reducible first | refine zM ?_ | refine zN ?_ | refine zE ?_ | refine zG ?_ | refine zF ?_) | refine zP ?_
    refine zd rfl (fun h => ?_) (fun h => ?_)
    · have hlt : i < rs.length := by simpa using h
      obtain ⟨z, hz⟩ : ∃ z, rs[i]? = some z := ⟨_, List.getElem?_eq_getElem hlt⟩
      have h1 := pq rs (i + 1)
      rw [to hz] at h1
      have h2 := vJ (rs.take i)
      repeat' first | refine zK ?_ | refine zA ?_ | refine zL [] ?_ | (refine isA ?_; refine zf rfl ?_) | (refine isL ?_; refine zU rfl (by kernel_rfl) rfl rfl ?_) | (refine zb rfl ?_; refine zT rfl (by kernel_rfl) rfl rfl ?_) | (refine yG ?_; refine zc rfl (z5 (t := rnT) (z := z) rfl rfl rfl rfl (Int.natCast_nonneg i) hz) rfl ?_) | (refine yF rfl ?_; refine zX rfl (by kernel_rfl) rfl (z5 (t := rnT) (z := z) rfl rfl rfl rfl (Int.natCast_nonneg i) hz) rfl ?_) | (refine xU ?_; refine zc rfl (yX (t := rwT) (xs := (rs.take i).flatten) (ys := z) rfl rfl rfl rfl (.lst _ _) (by omega) rfl) rfl ?_) | (refine y9 rfl ?_; refine zX rfl (by kernel_rfl) rfl (yX (t := rwT) (xs := (rs.take i).flatten) (ys := z) rfl rfl rfl rfl (.lst _ _) (by omega) rfl) rfl ?_) | refine zD ?_ | refine zB _ rfl (by kernel_rfl) ?_ | refine zV rfl ?_ | refine zW rfl ?_ | refine zC ?_ | with_reducible refine zO ?_ | refine zH ?_ | refine zI ?_ | (with_reducible first | refine zM ?_ | refine zN ?_ | refine zE ?_ | refine zG ?_ | refine zF ?_) | refine zP ?_
      refine ⟨⟨i + 1, hlt⟩, by simp only; omega, ?_⟩
      exact yb [1] rfl rfl (by decide) (.cons rfl rfl rfl rfl (yh (by rw [wk hz]) (zJ _ _)) .nil) (by
        repeat' first | exact zg | refine zZ ?_ ?_ | exact zo | exact le_refl rfl | exact zj rfl rfl | exact zj rfl (by rw [wk hz, List.length_append]) | exact xI (by assumption) (by omega))
    · have hge : i = rs.length := by
        have : ¬ ((i : Int) < rs.length) := by simpa using h
        omega
      subst hge
      repeat' first | refine zK ?_ | refine zA ?_ | refine zL [] ?_ | (refine isA ?_; refine zf rfl ?_) | (refine isL ?_; refine zU rfl (by kernel_rfl) rfl rfl ?_) | (refine zb rfl ?_; refine zT rfl (by kernel_rfl) rfl rfl ?_) | exact mz (ty := rwT) rfl rfl rfl rfl (by simp) (by simp) (xg _) | refine zD ?_ | refine zB _ rfl (by kernel_rfl) ?_ | refine zV rfl ?_ | refine zW rfl ?_ | refine zC ?_ | with_reducible refine zO ?_ | refine zH ?_ | refine zI ?_ | (with_reducible first | refine zM ?_ | refine zN ?_ | refine zE ?_ | refine zG ?_ | refine zF ?_) | refine zP ?_
theorem g8 (rs : List Rn) (hok : tZ rs) (ht : tot rs ≤ 100000000) : zy Go.Proofs.Try.prog 78 [rnL rs] [] (.sl 0 0 rs.flatten.length) [rwR rs.flatten] false := by
  have hl := hok.1
  refine zw [2] Go.Proofs.Try.func78 rfl rfl ?_
  simp only [Go.Proofs.Try.ntmps78, List.length_cons, List.length_nil, Nat.reduceAdd, Nat.reduceSub, List.replicate_succ, List.replicate_zero, List.cons_append, List.nil_append]
  repeat' first | refine zK ?_ | refine zA ?_ | refine zL [] ?_ | (refine isA ?_; refine zf rfl ?_) | (refine isL ?_; refine zU rfl (by kernel_rfl) rfl rfl ?_) | (refine zb rfl ?_; refine zT rfl (by kernel_rfl) rfl rfl ?_) | refine zD ?_ | refine zB _ rfl (by kernel_rfl) ?_ | refine zV rfl ?_ | refine zW rfl ?_ | refine zC ?_ | with_reducible refine zO ?_ | refine zH ?_ | refine zI ?_ | (with_reducible first | refine zM ?_ | refine zN ?_ | refine zE ?_ | refine zG ?_ | refine zF ?_) | refine zP ?_
  refine z9 (α := { i : Nat // i ≤ rs.length }) (fun i => ⟨[rnL rs, .any, .any, .sl 0 0 (rs.take i.1).flatten.length, .any, .any, .any, rnL rs, I rs.length, I i.1, .any, .any, .any, .any, .any, .any, .any, .any, .any], [rwR (rs.take i.1).flatten], 0⟩) (fun i => rs.length - i.1) ⟨0, Nat.zero_le _⟩ ?_ ?_
  · exact w4 rfl (by repeat' first | exact EqS.nil | refine EqS.any ?_ | refine EqS.same rfl ?_)
  · rintro ⟨i, hi⟩
    repeat' first | refine zK ?_ | refine zA ?_ | refine zL [] ?_ | (refine isA ?_; refine zf rfl ?_) | (refine isL ?_; refine zU rfl (by kernel_rfl) rfl rfl ?_) | (refine zb rfl ?_; refine zT rfl (by kernel_rfl) rfl rfl ?_) | refine zD ?_ | refine zB _ rfl (by kernel_rfl) ?_ | refine zV rfl ?_ | refine zW rfl ?_ | refine zC ?_ | with_reducible refine zO ?_ | refine zH ?_ | refine zI ?_ | (with_reducible first | refine zM ?_ | refine zN ?_ | refine zE ?_ | refine zG ?_ | refine zF ?_) | refine zP ?_
    refine zd rfl (fun h => ?_) (fun h => ?_)
    · have hlt : i < rs.length := by simpa using h
      obtain ⟨z, hz⟩ : ∃ z, rs[i]? = some z := ⟨_, List.getElem?_eq_getElem hlt⟩
      have h1 := pq rs (i + 1)
      rw [to hz] at h1
      have h2 := vJ (rs.take i)
      repeat' first | refine zK ?_ | refine zA ?_ | refine zL [] ?_ | (refine isA ?_; refine zf rfl ?_) | (refine isL ?_; refine zU rfl (by kernel_rfl) rfl rfl ?_) | (refine zb rfl ?_; refine zT rfl (by kernel_rfl) rfl rfl ?_) | (refine yG ?_; refine zc rfl (z5 (t := rnT) (z := z) rfl rfl rfl rfl (Int.natCast_nonneg i) hz) rfl ?_) | (refine yF rfl ?_; refine zX rfl (by kernel_rfl) rfl (z5 (t := rnT) (z := z) rfl rfl rfl rfl (Int.natCast_nonneg i) hz) rfl ?_) | (refine xU ?_; refine zc rfl (yX (t := rwT) (xs := (rs.take i).flatten) (ys := z) rfl rfl rfl rfl (.lst _ _) (by omega) rfl) rfl ?_) | (refine y9 rfl ?_; refine zX rfl (by kernel_rfl) rfl (yX (t := rwT) (xs := (rs.take i).flatten) (ys := z) rfl rfl rfl rfl (.lst _ _) (by omega) rfl) rfl ?_) | refine zD ?_ | refine zB _ rfl (by kernel_rfl) ?_ | refine zV rfl ?_ | refine zW rfl ?_ | refine zC ?_ | with_reducible refine zO ?_ | refine zH ?_ | refine zI ?_ | (with_reducible first | refine zM ?_ | refine zN ?_ | refine zE ?_ | refine zG ?_ | refine zF ?_) | refine zP ?_
      refine ⟨⟨i + 1, hlt⟩, by simp only; omega, ?_⟩
      exact yb [2] rfl rfl (by decide) (.cons rfl rfl rfl rfl (yh (by rw [wk hz]) (zJ _ _)) .nil) (by
        repeat' first | exact zg | refine zZ ?_ ?_ | exact zo | exact le_refl rfl | exact zj rfl rfl | exact zj rfl (by rw [wk hz, List.length_append]) | exact xI (by assumption) (by omega))
    · have hge : i = rs.length := by
        have : ¬ ((i : Int) < rs.length) := by simpa using h
        omega
      subst hge
      repeat' first | refine zK ?_ | refine zA ?_ | refine zL [] ?_ | (refine isA ?_; refine zf rfl ?_) | (refine isL ?_; refine zU rfl (by kernel_rfl) rfl rfl ?_) | (refine zb rfl ?_; refine zT rfl (by kernel_rfl) rfl rfl ?_) | exact mz (ty := rwT) rfl rfl rfl rfl (by simp) (by simp) (xg _) | refine zD ?_ | refine zB _ rfl (by kernel_rfl) ?_ | refine zV rfl ?_ | refine zW rfl ?_ | refine zC ?_ | with_reducible refine zO ?_ | refine zH ?_ | refine zI ?_ | (with_reducible first | refine zM ?_ | refine zN ?_ | refine zE ?_ | refine zG ?_ | refine zF ?_) | refine zP ?_
end Go.Proofs.Ytojcojanokhnaaa.Ab
namespace Go.Proofs.Ytojcojanokhnaaa.Ab
open Go.RowKit
def rcV (rs : List Rn) (k : Nat) (p : Int) : Int := cond (decide (p < 0)) 0 (y7 ((rs.getD k [])[p.toNat]?).toList)
def yv (s : So) : Int := cond (decide (s.ph = 1)) (y7 s.heap + y7 s.dfr) (cond (decide (s.ph = 2)) (cond (decide (s.lp < 0) || decide (s.rp < 0)) 0 (rcV s.runs 0 s.lp + rcV s.runs 1 s.rp)) (cond (decide (s.ph = 3)) (rcV s.runs 0 s.lp) 0))
def vd (s : So) : Bool := avR s.input && (inV s.pos 0 s.input.length && (avS s.runs && (decide (0 ≤ s.wr) && (vb s.out && s.heap.all fun r => !bel r s.out))))
def tn (s : So) : Bool := decide (s.lp = 0) && (decide (s.rp = 0) && ((decide (0 < s.out.length) || decide (s.dfr.length = 0)) && (decide (yv s ≤ 60) && eqB (s.runs.flatten ++ s.out ++ s.heap ++ s.dfr) (s.input.take s.pos.toNat))))
def vE (s : So) : Bool := decide (s.pos = s.input.length) && (decide (s.heap.length = 0) && (decide (s.dfr.length = 0) && eqB s.runs.flatten s.input))
def w3 (s : So) : Bool := match s.runs with
  | a :: b :: _ => inV s.lp 0 a.length && (inV s.rp 0 b.length && (xO s.out (mgV (a.take s.lp.toNat) (b.take s.rp.toNat)) && xO s.out ((mgV a b).take (s.lp.toNat + s.rp.toNat))))
  | _ => false
def uC (s : So) : Bool := decide (s.runs.length = 1) && (inV s.lp 0 ((s.input.length : Int) - 1) && (decide (s.rp = 0) && decide (s.out.length = 0)))
def uD (s : So) : Bool := decide (s.runs.length ≤ 1) && (decide (s.lp = s.input.length) && (decide (s.rp = 0) && decide (s.out.length = 0)))
def vS (s : So) : Bool := vd s && cond (decide (s.ph = 1)) (tn s) (vE s && cond (decide (s.ph = 2)) (w3 s) (cond (decide (s.ph = 3)) (uC s) (cond (decide (s.ph = 4)) (uD s) false)))
def yQ (s : So) : So := { s with lp := 0, rp := 0, ph := cond (decide (s.runs.length = 0)) 4 (cond (decide (s.runs.length = 1)) 3 2) }
def endV (s : So) : So := { s with runs := s.runs ++ [s.out], out := [] }
def wc (s : So) (r : Rw) : So := cond (bel r s.out) { s with dfr := s.dfr ++ [r], pos := s.pos + 1 } { s with heap := s.heap ++ [r], pos := s.pos + 1 }
def uO (s : So) (k : Nat) (r : Rw) : So := { s with heap := s.heap.take k ++ s.heap.drop (k + 1), out := s.out ++ [r], wr := IntKind.i64.wrap (s.wr + yx r) }
def yf (s : So) : So := { s with runs := s.runs ++ [s.out], out := [], heap := s.dfr, dfr := [] }
def x5 (s : So) : So := cond (decide (0 < s.out.length)) (endV s) s
def sT (s : So) : So := { s with runs := s.runs.drop 2 ++ [s.out], out := [] }
def uh (s : So) (r : Rw) : So := { s with out := s.out ++ [r], wr := IntKind.i64.wrap (s.wr + yx r), lp := s.lp + 1 }
def vQ (s : So) (r : Rw) : So := { s with out := s.out ++ [r], wr := IntKind.i64.wrap (s.wr + yx r), rp := s.rp + 1 }
def vr (s : So) : So := { s with lp := s.lp + 1, ph := cond (decide (s.lp + 1 = s.input.length)) 4 3 }
inductive StepV (s : So) (g : Int) : So → List Rw → Prop where
  | put {r : Rw} (hp : s.ph = 1) (hr : s.input[s.pos.toNat]? = some r) (hf : yv s + yx r ≤ g) : StepV s g (wc s r) []
  | pop {k : Nat} {r : Rw} (hp : s.ph = 1) (hf : ∀ r, s.input[s.pos.toNat]? = some r → g < yv s + yx r) (hh : 0 < s.heap.length) (hk : nA s.heap = (k : Nat)) (hr : s.heap[k]? = some r) : StepV s g (uO s k r) []
  | swap (hp : s.ph = 1) (hf : ∀ r, s.input[s.pos.toNat]? = some r → g < yv s + yx r) (hh : s.heap = []) (hd : 0 < s.dfr.length) : StepV s g (yf s) []
  | close (hp : s.ph = 1) (hf : ∀ r, s.input[s.pos.toNat]? = some r → g < yv s + yx r) (hh : s.heap = []) (hd : s.dfr = []) : StepV s g (yQ (x5 s)) []
  | merged {a b : Rn} {rest : List Rn} (hp : s.ph = 2) (hr : s.runs = a :: b :: rest) (h1 : s.lp = a.length) (h2 : s.rp = b.length) : StepV s g (yQ (sT s)) []
  | left {a b : Rn} {rest : List Rn} {r : Rw} (hp : s.ph = 2) (hr : s.runs = a :: b :: rest) (h1 : a[s.lp.toNat]? = some r) (h2 : ∀ q, b[s.rp.toNat]? = some q → leW r q) : StepV s g (uh s r) []
  | right {a b : Rn} {rest : List Rn} {r : Rw} (hp : s.ph = 2) (hr : s.runs = a :: b :: rest) (h1 : b[s.rp.toNat]? = some r) (h2 : ∀ q, a[s.lp.toNat]? = some q → ¬ leW q r) : StepV s g (vQ s r) []
  | emit {a : Rn} {r : Rw} (hp : s.ph = 3) (hr : s.runs = [a]) (h1 : a[s.lp.toNat]? = some r) : StepV s g (vr s) [r]
end Go.Proofs.Ytojcojanokhnaaa.Ab
namespace Go.Proofs.Ytojcojanokhnaaa.Ab
open Go.RowKit
instance : DecidableEq Rw := fun x y => decidable_of_iff (rwD x y = true) ng
theorem vR {xs ys : List Rw} : xs.Perm ys ↔ ∀ a, xs.count a = ys.count a := List.perm_iff_count
theorem wL : ∀ xs ys : List Rw, (mgV xs ys).Perm (xs ++ ys)
  | [], ys => by rw [vn]; exact .refl _
  | x :: xs, [] => by rw [ug, List.append_nil]
  | x :: xs, y :: ys => by
    cases h : decide (yr x y ≤ 0) with
    | true => rw [nk h]; exact (wL xs (y :: ys)).cons x
    | false =>
      rw [nl h]
      exact ((wL (x :: xs) ys).cons y).trans List.perm_middle.symm
termination_by xs ys => xs.length + ys.length
theorem w8 : ∀ {xs ys : List Rw}, Srt xs → Srt ys → Srt (mgV xs ys)
  | [], ys, _, h => by rw [vn]; exact h
  | x :: xs, [], h, _ => by rw [ug]; exact h
  | x :: xs, y :: ys, hx, hy => by
    have hx' := List.pairwise_cons.1 hx
    have hy' := List.pairwise_cons.1 hy
    cases h : decide (yr x y ≤ 0) with
    | true =>
      have hle : leW x y := of_decide_eq_true h
      rw [nk h]
      refine List.pairwise_cons.2 ⟨fun z hz => ?_, w8 hx'.2 hy⟩
      rcases List.mem_append.1 ((wL xs (y :: ys)).mem_iff.1 hz) with hz | hz
      · exact hx'.1 z hz
      · rcases List.mem_cons.1 hz with rfl | hz
        · exact hle
        · exact xH hle (hy'.1 z hz)
    | false =>
      have hle : leW y x := wd (of_decide_eq_false h)
      rw [nl h]
      refine List.pairwise_cons.2 ⟨fun z hz => ?_, w8 hx hy'.2⟩
      rcases List.mem_append.1 ((wL (x :: xs) ys).mem_iff.1 hz) with hz | hz
      · rcases List.mem_cons.1 hz with rfl | hz
        · exact hle
        · exact xH hle (hx'.1 z hz)
      · exact hy'.1 z hz
termination_by xs ys => xs.length + ys.length
theorem fg {xs ys : List Rw} (hx : Srt xs) (hy : Srt ys) : mgV xs ys = yJ (xs ++ ys) := wb (w8 hx hy) (wL xs ys)
theorem wP {xs : List Rw} (h : Srt xs) (n : Nat) : Srt (xs.take n) := h.sublist (List.take_sublist n xs)
theorem lh {xs : List Rw} (h : Srt xs) (n : Nat) : Srt (xs.drop n) := h.sublist (List.drop_sublist n xs)
theorem sI {S out D D' : List Rw} {r : Rw} (hS : Srt S) (ho : out = S.take out.length) (hp : (out ++ D).Perm S) (hD : D.Perm (r :: D')) (hr : ∀ z ∈ D', leW r z) : S.take (out.length + 1) = out ++ [r] := by
  have e : S = out ++ S.drop out.length := by
    have := List.take_append_drop out.length S
    rw [← ho] at this
    exact this.symm
  have hd : (S.drop out.length).Perm (r :: D') := by
    rw [vR] at *
    intro a
    have h1 := hp a
    have h2 := hD a
    rw [e] at h1
    simp only [List.count_append] at h1
    omega
  have hs : Srt (r :: yJ D') := List.pairwise_cons.2 ⟨fun z hz => hr z ((yY D').mem_iff.1 hz), xE D'⟩
  have e2 : S.drop out.length = r :: yJ D' := vP (lh hS _) hs (hd.trans ((yY D').symm.cons r))
  have e3 : S[out.length]? = some r := by
    have := congrArg (fun l => l[0]?) e2
    simp only [List.getElem?_drop, Nat.add_zero] at this
    exact this
  rw [List.take_add_one, e3, ← ho]
  rfl
theorem mG {xs : List Rw} {i : Nat} {r : Rw} (h : Srt xs) (hr : xs[i]? = some r) : ∀ z ∈ xs.drop i, leW r z := fun z hz => by
  obtain ⟨j, hj⟩ := List.getElem?_of_mem hz
  rw [List.getElem?_drop] at hj
  exact vh h (Nat.le_add_right i j) hr hj
theorem pY {xs : List Rw} {i : Nat} {r : Rw} (h : Srt xs) (hr : ∀ q, xs[i]? = some q → leW r q) : ∀ z ∈ xs.drop i, leW r z := fun z hz => by
  obtain ⟨j, hj⟩ := List.getElem?_of_mem hz
  rw [List.getElem?_drop] at hj
  have hlt := (List.getElem?_eq_some_iff.1 hj).1
  obtain ⟨q, hq⟩ : ∃ z, xs[i]? = some z := ⟨_, List.getElem?_eq_getElem (by omega)⟩
  exact xH (hr q hq) (vh h (Nat.le_add_right i j) hq hj)
structure MgI (a b : Rn) (i j : Nat) (out : List Rw) : Prop where
  ha : i ≤ a.length
  hb : j ≤ b.length
  o1 : out = mgV (a.take i) (b.take j)
  o2 : out = (mgV a b).take (i + j)
theorem MgI.len {a b : Rn} {i j : Nat} {out : List Rw} (h : MgI a b i j out) : out.length = i + j := by
  have h1 := h.ha
  have h2 := h.hb
  rw [h.o1, u7, List.length_take, List.length_take]; omega
theorem kE {a b : Rn} {i j : Nat} {out : List Rw} {r : Rw} (sa : Srt a) (sb : Srt b) (h : MgI a b i j out) (hr : a[i]? = some r) (hq : ∀ q, b[j]? = some q → leW r q) : MgI a b (i + 1) j (out ++ [r]) := by
  have hl := h.len
  have hlt := (List.getElem?_eq_some_iff.1 hr).1
  have p0 : out.Perm (a.take i ++ b.take j) := by have := wL (a.take i) (b.take j); rw [← h.o1] at this; exact this
  have ea : a = a.take i ++ r :: a.drop (i + 1) := by rw [← yE hr, List.take_append_drop]
  have eb : b = b.take j ++ b.drop j := (List.take_append_drop _ _).symm
  have p1 : (out ++ (a.drop i ++ b.drop j)).Perm (mgV a b) := by
    refine List.Perm.trans ?_ (wL a b).symm
    rw [vR] at *
    intro x
    have h1 := p0 x
    have h2 := congrArg (List.count x) ea
    have h3 := congrArg (List.count x) eb
    rw [yE hr]
    simp only [List.count_append, List.count_cons] at *
    omega
  have hn := sI (w8 sa sb) (by rw [hl]; exact h.o2) p1 (D' := a.drop (i + 1) ++ b.drop j) (r := r) (by rw [yE hr]; exact .refl _) (fun z hz => by
    rcases List.mem_append.1 hz with hz | hz
    · exact mG sa hr z (by rw [yE hr]; exact List.mem_cons_of_mem _ hz)
    · exact pY sb hq z hz)
  refine ⟨hlt, h.hb, ?_, by rw [← hn, hl]; congr 1; omega⟩
  rw [fg (wP sa _) (wP sb _)]
  refine wb (by rw [← hn]; exact wP (w8 sa sb) _) ?_
  rw [yo hr]
  rw [vR] at *
  intro x
  have h1 := p0 x
  simp only [List.count_append] at *
  omega
theorem mu {a b : Rn} {i j : Nat} {out : List Rw} {r : Rw} (sa : Srt a) (sb : Srt b) (h : MgI a b i j out) (hr : b[j]? = some r) (hq : ∀ q, a[i]? = some q → leW r q) : MgI a b i (j + 1) (out ++ [r]) := by
  have hl := h.len
  have hlt := (List.getElem?_eq_some_iff.1 hr).1
  have p0 : out.Perm (a.take i ++ b.take j) := by have := wL (a.take i) (b.take j); rw [← h.o1] at this; exact this
  have eb : b = b.take j ++ r :: b.drop (j + 1) := by rw [← yE hr, List.take_append_drop]
  have ea : a = a.take i ++ a.drop i := (List.take_append_drop _ _).symm
  have p1 : (out ++ (a.drop i ++ b.drop j)).Perm (mgV a b) := by
    refine List.Perm.trans ?_ (wL a b).symm
    rw [vR] at *
    intro x
    have h1 := p0 x
    have h2 := congrArg (List.count x) ea
    have h3 := congrArg (List.count x) eb
    rw [yE hr]
    simp only [List.count_append, List.count_cons] at *
    omega
  have hn := sI (w8 sa sb) (by rw [hl]; exact h.o2) p1 (D' := a.drop i ++ b.drop (j + 1)) (r := r) (by rw [yE hr]; exact List.perm_middle) (fun z hz => by
    rcases List.mem_append.1 hz with hz | hz
    · exact pY sa hq z hz
    · exact mG sb hr z (by rw [yE hr]; exact List.mem_cons_of_mem _ hz))
  refine ⟨h.ha, hlt, ?_, by rw [← hn, hl]; congr 1⟩
  rw [fg (wP sa _) (wP sb _)]
  refine wb (by rw [← hn]; exact wP (w8 sa sb) _) ?_
  rw [yo hr]
  rw [vR] at *
  intro x
  have h1 := p0 x
  simp only [List.count_append] at *
  omega
def gM (r : Rn) : Prop := r ≠ [] ∧ Srt r ∧ avR r = true
structure VBa (s : So) : Prop where
  input : avR s.input = true
  pos : ∃ p : Nat, s.pos = (p : Int) ∧ p ≤ s.input.length
  runs : ∀ r ∈ s.runs, gM r
  wr : 0 ≤ s.wr
  out : Srt s.out
  heap : ∀ x ∈ s.heap, bel x s.out = false
structure VRe (s : So) : Prop where
  ph : s.ph = 1
  lp : s.lp = 0
  rp : s.rp = 0
  dfr : s.dfr ≠ [] → s.out ≠ []
  mem : y7 s.heap + y7 s.dfr ≤ 60
  bag : (s.runs.flatten ++ s.out ++ s.heap ++ s.dfr).Perm (s.input.take s.pos.toNat)
structure VTe (s : So) : Prop where
  pos : s.pos = s.input.length
  heap : s.heap = []
  dfr : s.dfr = []
  bag : s.runs.flatten.Perm s.input
inductive VS (s : So) : Prop where
  | read (b : VBa s) (r : VRe s) : VS s
  | merge (b : VBa s) (t : VTe s) (ph : s.ph = 2) {x y : Rn} {rest : List Rn} {i j : Nat} (runs : s.runs = x :: y :: rest) (lp : s.lp = (i : Int)) (rp : s.rp = (j : Int)) (m : MgI x y i j s.out) : VS s
  | emit (b : VBa s) (t : VTe s) (ph : s.ph = 3) {x : Rn} {i : Nat} (runs : s.runs = [x]) (lp : s.lp = (i : Int)) (h : i < s.input.length) (rp : s.rp = 0) (out : s.out = []) : VS s
  | done (b : VBa s) (t : VTe s) (ph : s.ph = 4) (runs : s.runs.length ≤ 1) (lp : s.lp = s.input.length) (rp : s.rp = 0) (out : s.out = []) : VS s
theorem mT {s : So} : vd s = true ↔ VBa s := by
  simp only [vd, Bool.and_eq_true, xC, decide_eq_true_eq, vb, List.all_eq_true, avS, Bool.not_eq_true']
  constructor
  · rintro ⟨h1, h2, h3, h4, h5, h6⟩
    refine ⟨h1, ⟨s.pos.toNat, by omega, by omega⟩, fun r hr => ?_, h4, h5, h6⟩
    obtain ⟨a, b, c⟩ := h3 r hr
    refine ⟨?_, b, c⟩
    rintro rfl
    simp at a
  · rintro ⟨h1, ⟨p, h2, h2'⟩, h3, h4, h5, h6⟩
    refine ⟨h1, by omega, fun r hr => ?_, h4, h5, h6⟩
    obtain ⟨a, b, c⟩ := h3 r hr
    refine ⟨?_, b, c⟩
    simpa using a
theorem jd {xs ys : List Rw} : (xO xs ys = true) = (xs = ys) := propext vK
theorem wE {s : So} : vS s = true ↔ VS s := by
  unfold vS
  rw [Bool.and_eq_true, mT]
  constructor
  · rintro ⟨b, h⟩
    rcases Classical.em (s.ph = 1) with h1 | h1
    · rw [decide_eq_true h1, cond_true] at h
      simp only [tn, Bool.and_eq_true, Bool.or_eq_true, decide_eq_true_eq, v4, yv, h1, decide_true, cond_true] at h
      obtain ⟨q1, q2, q3, q4, q5⟩ := h
      refine .read b ⟨h1, q1, q2, fun hd => ?_, q4, q5⟩
      rintro e
      rw [e] at q3
      rcases q3 with q3 | q3
      · simp at q3
      · exact hd (List.eq_nil_of_length_eq_zero q3)
    · rw [decide_eq_false h1, cond_false] at h
      simp only [vE, Bool.and_eq_true, decide_eq_true_eq, v4] at h
      obtain ⟨⟨t1, t2, t3, t4⟩, h⟩ := h
      have t : VTe s := ⟨t1, List.eq_nil_of_length_eq_zero t2, List.eq_nil_of_length_eq_zero t3, t4⟩
      rcases Classical.em (s.ph = 2) with h2 | h2
      · rw [decide_eq_true h2, cond_true] at h
        unfold w3 at h
        split at h
        · rename_i a b' rest hr
          simp only [Bool.and_eq_true, xC, jd] at h
          obtain ⟨q1, q2, q3, q4⟩ := h
          exact .merge b t h2 hr (i := s.lp.toNat) (j := s.rp.toNat) (by omega) (by omega) ⟨by omega, by omega, q3, q4⟩
        · cases h
      · rw [decide_eq_false h2, cond_false] at h
        rcases Classical.em (s.ph = 3) with h3 | h3
        · rw [decide_eq_true h3, cond_true] at h
          simp only [uC, Bool.and_eq_true, xC, decide_eq_true_eq] at h
          obtain ⟨q1, q2, q3, q4⟩ := h
          obtain ⟨x, hx⟩ := List.length_eq_one_iff.1 q1
          exact .emit b t h3 hx (i := s.lp.toNat) (by omega) (by omega) q3 (List.eq_nil_of_length_eq_zero q4)
        · rw [decide_eq_false h3, cond_false] at h
          rcases Classical.em (s.ph = 4) with h4 | h4
          · rw [decide_eq_true h4, cond_true] at h
            simp only [uD, Bool.and_eq_true, decide_eq_true_eq] at h
            obtain ⟨q1, q2, q3, q4⟩ := h
            exact .done b t h4 q1 q2 q3 (List.eq_nil_of_length_eq_zero q4)
          · rw [decide_eq_false h4, cond_false] at h
            cases h
  · intro h
    cases h with
    | read b r =>
      refine ⟨b, ?_⟩
      rw [decide_eq_true r.ph, cond_true]
      simp only [tn, Bool.and_eq_true, Bool.or_eq_true, decide_eq_true_eq, v4, yv, r.ph, decide_true, cond_true]
      refine ⟨r.lp, r.rp, ?_, r.mem, r.bag⟩
      rcases Classical.em (s.dfr = []) with e | e
      · right; rw [e]; rfl
      · left; exact List.length_pos_iff.2 (r.dfr e)
    | merge b t ph runs lp rp m =>
      refine ⟨b, ?_⟩
      have ht : vE s = true := by simp only [vE, Bool.and_eq_true, decide_eq_true_eq, v4]; exact ⟨t.pos, by rw [t.heap]; rfl, by rw [t.dfr]; rfl, t.bag⟩
      rw [decide_eq_false (by rw [ph]; decide), cond_false, ht, Bool.true_and, decide_eq_true ph, cond_true]
      have q1 := m.ha
      have q2 := m.hb
      simp only [w3, runs, Bool.and_eq_true, xC, jd, lp, rp, Int.toNat_natCast]
      exact ⟨by omega, by omega, m.o1, m.o2⟩
    | emit b t ph runs lp h rp out =>
      refine ⟨b, ?_⟩
      have ht : vE s = true := by simp only [vE, Bool.and_eq_true, decide_eq_true_eq, v4]; exact ⟨t.pos, by rw [t.heap]; rfl, by rw [t.dfr]; rfl, t.bag⟩
      rw [decide_eq_false (by rw [ph]; decide), cond_false, ht, Bool.true_and, decide_eq_false (by rw [ph]; decide), cond_false, decide_eq_true ph, cond_true]
      simp only [uC, Bool.and_eq_true, xC, decide_eq_true_eq]
      exact ⟨by rw [runs]; rfl, by omega, rp, by rw [out]; rfl⟩
    | done b t ph runs lp rp out =>
      refine ⟨b, ?_⟩
      have ht : vE s = true := by simp only [vE, Bool.and_eq_true, decide_eq_true_eq, v4]; exact ⟨t.pos, by rw [t.heap]; rfl, by rw [t.dfr]; rfl, t.bag⟩
      rw [decide_eq_false (by rw [ph]; decide), cond_false, ht, Bool.true_and, decide_eq_false (by rw [ph]; decide), cond_false, decide_eq_false (by rw [ph]; decide), cond_false, decide_eq_true ph, cond_true]
      simp only [uD, Bool.and_eq_true, decide_eq_true_eq]
      exact ⟨runs, lp, rp, by rw [out]; rfl⟩
end Go.Proofs.Ytojcojanokhnaaa.Ab
namespace Go.Proofs.Ytojcojanokhnaaa.Ab
open Go.RowKit
theorem vV {xs : List Rw} : avR xs = true ↔ (∀ x ∈ xs, vRw x = true) ∧ xs.length ≤ 24 := by
  simp only [avR, Bool.and_eq_true, List.all_eq_true, decide_eq_true_eq]
  constructor
  · rintro ⟨a, b⟩; exact ⟨a, by omega⟩
  · rintro ⟨a, b⟩; exact ⟨a, by omega⟩
def uL (s : So) (g : Int) : Prop := ∀ r, s.input[s.pos.toNat]? = some r → g < yv s + yx r
theorem nZ {s : So} {g : Int} (hv : VS s) (hd : s.ph ≠ 4) : ∃ x r, StepV s g x r := by
  cases hv with
  | read b q =>
    rcases Classical.em (∃ r, s.input[s.pos.toNat]? = some r ∧ yv s + yx r ≤ g) with ⟨r, h1, h2⟩ | hn
    · exact ⟨_, _, .put q.ph h1 h2⟩
    · have hf : uL s g := fun r hr => Classical.byContradiction fun h => hn ⟨r, hr, by omega⟩
      rcases Nat.eq_zero_or_pos s.heap.length with h0 | h0
      · rcases Nat.eq_zero_or_pos s.dfr.length with d0 | d0
        · exact ⟨_, _, .close q.ph hf (List.eq_nil_of_length_eq_zero h0) (List.eq_nil_of_length_eq_zero d0)⟩
        · exact ⟨_, _, .swap q.ph hf (List.eq_nil_of_length_eq_zero h0) d0⟩
      · obtain ⟨k, y, h1, h2, _⟩ := nj h0
        exact ⟨_, _, .pop q.ph hf h0 h1 h2⟩
  | @merge b t ph x y rest i j runs lp rp m =>
    have e1 : s.lp.toNat = i := by omega
    have e2 : s.rp.toNat = j := by omega
    rcases Classical.em (i = x.length) with h1 | h1
    · rcases Classical.em (j = y.length) with h2 | h2
      · exact ⟨_, _, .merged ph runs (by omega) (by omega)⟩
      · have := m.hb
        obtain ⟨r, hr⟩ : ∃ z, y[j]? = some z := ⟨_, List.getElem?_eq_getElem (by omega)⟩
        refine ⟨_, _, .right (r := r) ph runs (by rw [e2]; exact hr) (fun q hq => ?_)⟩
        rw [e1, h1, List.getElem?_eq_none (Nat.le_refl _)] at hq
        cases hq
    · have := m.ha
      obtain ⟨r, hr⟩ : ∃ z, x[i]? = some z := ⟨_, List.getElem?_eq_getElem (by omega)⟩
      rcases Classical.em (∀ q, y[j]? = some q → leW r q) with hq | hq
      · exact ⟨_, _, .left (r := r) ph runs (by rw [e1]; exact hr) (by rw [e2]; exact hq)⟩
      · obtain ⟨q, hq⟩ := Classical.not_forall.1 hq
        have h3 : y[j]? = some q := Classical.byContradiction fun h => hq fun h' => absurd h' h
        have h4 : ¬ leW r q := fun h => hq fun _ => h
        refine ⟨_, _, .right (r := q) ph runs (by rw [e2]; exact h3) (fun q' hq' => ?_)⟩
        rw [e1, hr] at hq'
        cases hq'
        exact h4
  | @emit b t ph x i runs lp h rp out =>
    have hb := t.bag.length_eq
    rw [runs] at hb
    simp at hb
    obtain ⟨r, hr⟩ : ∃ z, x[i]? = some z := ⟨_, List.getElem?_eq_getElem (by omega)⟩
    exact ⟨_, _, .emit ph runs (by rw [lp]; exact hr)⟩
  | done b t ph => exact absurd ph hd
theorem uR {s : So} (b : VBa s) (t : VTe s) (ho : s.out = []) : VS (yQ s) := by
  have b' : VBa (yQ s) := ⟨b.input, b.pos, b.runs, b.wr, b.out, b.heap⟩
  have t' : VTe (yQ s) := ⟨t.pos, t.heap, t.dfr, t.bag⟩
  match hr : s.runs with
  | [] =>
    have hb := t.bag.length_eq
    rw [hr] at hb
    simp at hb
    refine .done b' t' (by simp [yQ, hr]) (by simp [yQ, hr]) ?_ rfl ho
    show (0 : Int) = s.input.length
    omega
  | [x] =>
    have hb := t.bag.length_eq
    rw [hr] at hb
    simp at hb
    have hx : x ≠ [] := (b.runs x (by rw [hr]; simp)).1
    have := List.length_pos_iff.2 hx
    exact .emit b' t' (by simp [yQ, hr]) hr (i := 0) rfl (by show 0 < s.input.length; omega) rfl ho
  | x :: y :: rest =>
    refine .merge b' t' ?_ hr (i := 0) (j := 0) rfl rfl ⟨Nat.zero_le _, Nat.zero_le _, ?_, ?_⟩
    · show cond (decide (s.runs.length = 0)) 4 (cond (decide (s.runs.length = 1)) 3 2) = 2
      rw [hr, decide_eq_false (by simp), decide_eq_false (by simp)]; rfl
    · show s.out = mgV [] []
      rw [vn]; exact ho
    · exact ho
theorem lH {xs : List Rw} {p : Int} (h : p = xs.length) : xs.take p.toNat = xs := by rw [h]; simp
theorem fF {s : So} (h : (s.runs.flatten ++ s.out ++ s.heap ++ s.dfr).Perm (s.input.take s.pos.toNat)) {x : Rw} (hx : x ∈ s.out) : x ∈ s.input :=
  List.mem_of_mem_take (h.mem_iff.1 (by simp [hx]))
theorem fG {s : So} (h : (s.runs.flatten ++ s.out ++ s.heap ++ s.dfr).Perm (s.input.take s.pos.toNat)) : s.out.length + s.heap.length + s.dfr.length ≤ s.input.length := by
  have := h.length_eq
  simp only [List.length_append, List.length_take] at this
  omega
theorem l9 {s : So} (b : VBa s) (q : VRe s) (h : s.out ≠ []) : gM s.out := by
  refine ⟨h, b.out, vV.2 ⟨fun x hx => (vV.1 b.input).1 x (fF q.bag hx), ?_⟩⟩
  have := fG q.bag
  have := (vV.1 b.input).2
  omega
theorem tS {s : So} (q : s.ph = 1) : yv s = y7 s.heap + y7 s.dfr := by simp [yv, q]
theorem mX {s : So} {g : Int} (b : VBa s) (q : VRe s) (hg : 8 ≤ g) (hf : uL s g) (hh : s.heap = []) (hd : s.dfr = []) : s.pos = s.input.length := by
  obtain ⟨p, hp, hle⟩ := b.pos
  have hm : yv s = 0 := by rw [tS q.ph, hh, hd]; rfl
  rcases Nat.lt_or_ge p s.input.length with hlt | hge
  · exfalso
    have := hf _ (show s.input[s.pos.toNat]? = some _ from by rw [hp, Int.toNat_natCast]; exact List.getElem?_eq_getElem hlt)
    have := wY s.input[p]
    omega
  · omega
theorem ux {w c : Int} (h0 : 0 ≤ w) (h1 : w ≤ 4611686018427387904) (c0 : 0 ≤ c) (c1 : c ≤ 4) : IntKind.i64.wrap (w + c) = w + c := by rw [IntKind.wrap_i64]; omega
theorem vO {s x : So} {g : Int} {r : List Rw} (hv : VS s) (hg : 8 ≤ g) (hg2 : g ≤ 60) (hw : s.wr ≤ 4611686018427387904) (h : StepV s g x r) : VS x := by
  cases h with
  | @put r hp hr hf =>
    cases hv with
    | read b q =>
      obtain ⟨p, hpp, hle⟩ := b.pos
      have e : s.pos.toNat = p := by omega
      rw [e] at hr
      have hlt := (List.getElem?_eq_some_iff.1 hr).1
      have ew : (s.pos + 1).toNat = p + 1 := by omega
      have hm := tS q.ph
      have bg := q.bag
      rw [e] at bg
      unfold wc
      cases hb : bel r s.out with
      | true =>
        rw [cond_true]
        refine .read ⟨b.input, ⟨p + 1, by simp only; omega, hlt⟩, b.runs, b.wr, b.out, b.heap⟩ ⟨hp, q.lp, q.rp, fun _ he => ?_, ?_, ?_⟩
        · simp only at he
          rw [he] at hb
          cases hb
        · simp only [vF, y7]; omega
        · simp only [ew]
          rw [yo hr, ← List.append_assoc]
          exact bg.append_right [r]
      | false =>
        rw [cond_false]
        refine .read ⟨b.input, ⟨p + 1, by simp only; omega, hlt⟩, b.runs, b.wr, b.out, fun y hy => ?_⟩ ⟨hp, q.lp, q.rp, q.dfr, ?_, ?_⟩
        · simp only at hy ⊢
          rcases List.mem_append.1 hy with hy | hy
          · exact b.heap y hy
          · have : y = r := by simpa using hy
            rw [this]; exact hb
        · simp only [vF, y7]; omega
        · simp only [ew]
          rw [yo hr]
          rw [vR] at *
          intro a
          have := bg a
          simp only [List.count_append] at *
          omega
    | merge b t ph => rw [hp] at ph; cases ph
    | emit b t ph => rw [hp] at ph; cases ph
    | done b t ph => rw [hp] at ph; cases ph
  | @pop k r hp hf hh hk hr =>
    cases hv with
    | read b q =>
      obtain ⟨k', y, m1, m2, m3⟩ := nj hh
      obtain rfl : k' = k := by rw [hk] at m1; omega
      rw [hr] at m2
      cases m2
      have hb := b.heap r (List.mem_of_getElem? hr)
      have hp1 := mW hr
      have bg := q.bag
      have c := wY r
      have e := mV hp1
      simp only [vF, y7] at e
      have hmem : ∀ z, z ∈ s.heap.take k' ++ s.heap.drop (k' + 1) → z ∈ s.heap := fun z hz => hp1.mem_iff.1 (List.mem_append_left _ hz)
      refine .read ⟨b.input, b.pos, b.runs, ?_, lg b.out hb, fun y hy => ?_⟩ ⟨hp, q.lp, q.rp, fun _ he => ?_, ?_, ?_⟩
      · simp only [uO]
        rw [ux b.wr hw c.1 c.2]
        have := b.wr
        omega
      · simp only [uO] at hy ⊢
        rw [gG]
        exact decide_eq_false (fun h => absurd (m3 y (hmem y hy)) (xN.1 h))
      · simp [uO] at he
      · have := q.mem
        simp only [uO, vF]; omega
      · simp only [uO]
        rw [vR] at *
        intro a
        have := bg a
        have := hp1 a
        simp only [List.count_append] at *
        omega
    | merge b t ph => rw [hp] at ph; cases ph
    | emit b t ph => rw [hp] at ph; cases ph
    | done b t ph => rw [hp] at ph; cases ph
  | swap hp hf hh hd =>
    cases hv with
    | read b q =>
      have hd' : s.dfr ≠ [] := List.ne_nil_of_length_pos hd
      have ho := l9 b q (q.dfr hd')
      have bg := q.bag
      refine .read ⟨b.input, b.pos, fun r hr => ?_, b.wr, List.Pairwise.nil, fun y hy => rfl⟩ ⟨hp, q.lp, q.rp, fun h => absurd rfl h, ?_, ?_⟩
      · simp only [yf] at hr
        rcases List.mem_append.1 hr with hr | hr
        · exact b.runs r hr
        · have : r = s.out := by simpa using hr
          rw [this]; exact ho
      · have := q.mem
        rw [hh] at this
        simp only [yf, y7] at this ⊢
        omega
      · simp only [yf]
        rw [vR] at *
        intro a
        have := bg a
        rw [hh] at this
        simp only [List.count_append, List.flatten_append, List.flatten_cons, List.flatten_nil, List.append_nil] at *
        omega
    | merge b t ph => rw [hp] at ph; cases ph
    | emit b t ph => rw [hp] at ph; cases ph
    | done b t ph => rw [hp] at ph; cases ph
  | close hp hf hh hd =>
    cases hv with
    | read b q =>
      have hpos := mX b q hg hf hh hd
      have bg := q.bag
      rw [lH hpos, hh, hd, List.append_nil, List.append_nil] at bg
      unfold x5
      rcases Nat.eq_zero_or_pos s.out.length with h0 | h0
      · rw [decide_eq_false (by omega), cond_false]
        have ho := List.eq_nil_of_length_eq_zero h0
        rw [ho, List.append_nil] at bg
        exact uR b ⟨hpos, hh, hd, bg⟩ ho
      · rw [decide_eq_true h0, cond_true]
        have ho := l9 b q (List.ne_nil_of_length_pos h0)
        refine uR ⟨b.input, b.pos, fun r hr => ?_, b.wr, List.Pairwise.nil, fun y hy => rfl⟩ ⟨hpos, hh, hd, ?_⟩ rfl
        · simp only [endV] at hr
          rcases List.mem_append.1 hr with hr | hr
          · exact b.runs r hr
          · have : r = s.out := by simpa using hr
            rw [this]; exact ho
        · simp only [endV, List.flatten_append, List.flatten_cons, List.flatten_nil, List.append_nil]
          exact bg
    | merge b t ph => rw [hp] at ph; cases ph
    | emit b t ph => rw [hp] at ph; cases ph
    | done b t ph => rw [hp] at ph; cases ph
  | @merged a c rest hp hr h1 h2 =>
    cases hv with
    | read b q => rw [q.ph] at hp; cases hp
    | @merge b t ph x y rest' i j runs lp rp m =>
      rw [hr] at runs
      cases runs
      have e1 : i = a.length := by omega
      have e2 : j = c.length := by omega
      subst e1 e2
      have bg := t.bag
      rw [hr] at bg
      have o1 := m.o1
      rw [List.take_length, List.take_length] at o1
      have oa := b.runs a (by rw [hr]; simp)
      have oc := b.runs c (by rw [hr]; simp)
      have po : s.out.Perm (a ++ c) := by rw [o1]; exact wL a c
      have hin : ∀ z ∈ s.out, z ∈ s.input := fun z hz => bg.mem_iff.1 (by
        have := po.mem_iff.1 hz
        simp only [List.flatten_cons, List.mem_append] at this ⊢
        rcases this with h | h
        · exact Or.inl h
        · exact Or.inr (Or.inl h))
      have hlen : s.out.length ≤ s.input.length := by
        have q1 := bg.length_eq
        have q2 := po.length_eq
        simp only [List.flatten_cons, List.length_append] at q1 q2
        omega
      have ed : s.runs.drop 2 = rest := by rw [hr]; rfl
      refine uR ⟨b.input, b.pos, fun r hr' => ?_, b.wr, List.Pairwise.nil, fun y hy => rfl⟩ ⟨t.pos, t.heap, t.dfr, ?_⟩ rfl
      · simp only [sT, ed] at hr'
        rcases List.mem_append.1 hr' with hr' | hr'
        · exact b.runs r (by rw [hr]; simp [hr'])
        · have : r = s.out := by simpa using hr'
          rw [this]
          refine ⟨?_, by rw [o1]; exact w8 oa.2.1 oc.2.1, vV.2 ⟨fun z hz => (vV.1 b.input).1 z (hin z hz), by have := (vV.1 b.input).2; omega⟩⟩
          intro he
          have := po.length_eq
          rw [he] at this
          have := List.length_pos_iff.2 oa.1
          simp only [List.length_append, List.length_nil] at *
          omega
      · simp only [sT, ed]
        rw [vR] at *
        intro z
        have := bg z
        have := po z
        simp only [List.count_append, List.flatten_append, List.flatten_cons, List.flatten_nil, List.append_nil] at *
        omega
    | emit b t ph => rw [hp] at ph; cases ph
    | done b t ph => rw [hp] at ph; cases ph
  | @left a c rest r hp hr h1 h2 =>
    cases hv with
    | read b q => rw [q.ph] at hp; cases hp
    | @merge b t ph x y rest' i j runs lp rp m =>
      rw [hr] at runs
      cases runs
      rw [show s.lp.toNat = i by omega] at h1
      rw [show s.rp.toNat = j by omega] at h2
      have hlt := (List.getElem?_eq_some_iff.1 h1).1
      have q := kE (b.runs a (by rw [hr]; simp)).2.1 (b.runs c (by rw [hr]; simp)).2.1 m h1 h2
      have cb := wY r
      refine .merge ⟨b.input, b.pos, b.runs, ?_, ?_, ?_⟩ ⟨t.pos, t.heap, t.dfr, t.bag⟩ hp hr (i := i + 1) (j := j) ?_ rp q
      · simp only [uh]; rw [ux b.wr hw cb.1 cb.2]; have := b.wr; omega
      · have := q.o2
        simp only [uh]
        rw [this]
        exact wP (w8 (b.runs a (by rw [hr]; simp)).2.1 (b.runs c (by rw [hr]; simp)).2.1) _
      · simp only [uh]; rw [t.heap]; intro z hz; cases hz
      · simp only [uh]; omega
    | emit b t ph => rw [hp] at ph; cases ph
    | done b t ph => rw [hp] at ph; cases ph
  | @right a c rest r hp hr h1 h2 =>
    cases hv with
    | read b q => rw [q.ph] at hp; cases hp
    | @merge b t ph x y rest' i j runs lp rp m =>
      rw [hr] at runs
      cases runs
      rw [show s.rp.toNat = j by omega] at h1
      rw [show s.lp.toNat = i by omega] at h2
      have hlt := (List.getElem?_eq_some_iff.1 h1).1
      have q := mu (b.runs a (by rw [hr]; simp)).2.1 (b.runs c (by rw [hr]; simp)).2.1 m h1 (fun q hq => wd (h2 q hq))
      have cb := wY r
      refine .merge ⟨b.input, b.pos, b.runs, ?_, ?_, ?_⟩ ⟨t.pos, t.heap, t.dfr, t.bag⟩ hp hr (i := i) (j := j + 1) lp ?_ q
      · simp only [vQ]; rw [ux b.wr hw cb.1 cb.2]; have := b.wr; omega
      · have := q.o2
        simp only [vQ]
        rw [this]
        exact wP (w8 (b.runs a (by rw [hr]; simp)).2.1 (b.runs c (by rw [hr]; simp)).2.1) _
      · simp only [vQ]; rw [t.heap]; intro z hz; cases hz
      · simp only [vQ]; omega
    | emit b t ph => rw [hp] at ph; cases ph
    | done b t ph => rw [hp] at ph; cases ph
  | @emit a r hp hr h1 =>
    cases hv with
    | read b q => rw [q.ph] at hp; cases hp
    | merge b t ph => rw [hp] at ph; cases ph
    | @emit b t ph x i runs lp hi rp out =>
      have b' : VBa (vr s) := ⟨b.input, b.pos, b.runs, b.wr, b.out, b.heap⟩
      have t' : VTe (vr s) := ⟨t.pos, t.heap, t.dfr, t.bag⟩
      rcases Classical.em (s.lp + 1 = s.input.length) with e | e
      · refine .done b' t' ?_ ?_ e rp out
        · show cond (decide (s.lp + 1 = s.input.length)) 4 3 = 4
          rw [decide_eq_true e]; rfl
        · show s.runs.length ≤ 1
          rw [runs]; simp
      · refine .emit b' t' ?_ runs (i := i + 1) ?_ ?_ rp out
        · show cond (decide (s.lp + 1 = s.input.length)) 4 3 = 3
          rw [decide_eq_false e]; rfl
        · show s.lp + 1 = _
          omega
        · show i + 1 < s.input.length
          omega
    | done b t ph => rw [hp] at ph; cases ph
end Go.Proofs.Ytojcojanokhnaaa.Ab
namespace Go.Proofs.Ytojcojanokhnaaa.Ab
open Go.RowKit
theorem mn (rs : List Rn) (k : Nat) (p : Int) : 0 ≤ rcV rs k p ∧ rcV rs k p ≤ 4 := by
  unfold rcV
  cases decide (p < 0) with
  | true => simp
  | false =>
    rw [cond_false]
    cases (rs.getD k [])[p.toNat]? with
    | none => simp [y7]
    | some x => have := wY x; simp only [Option.toList_some, y7]; omega
theorem sJ {s : So} (h : s.ph ≠ 1) : 0 ≤ yv s ∧ yv s ≤ 8 := by
  unfold yv
  rw [decide_eq_false h, cond_false]
  have h0 := mn s.runs 0 s.lp
  have h1 := mn s.runs 1 s.rp
  cases decide (s.ph = 2) with
  | true =>
    rw [cond_true]
    cases (decide (s.lp < 0) || decide (s.rp < 0)) with
    | true => simp
    | false => simp only [cond_false]; omega
  | false =>
    rw [cond_false]
    cases decide (s.ph = 3) with
    | true => simp only [cond_true]; omega
    | false => simp
theorem eL (s : So) : 0 ≤ yv s := by
  rcases Classical.em (s.ph = 1) with h | h
  · rw [tS h]; have := uE s.heap; have := uE s.dfr; omega
  · exact (sJ h).1
theorem mo (s : So) (r : Rw) : (wc s r).input = s.input ∧ (wc s r).pos = s.pos + 1 ∧ (wc s r).wr = s.wr ∧ (wc s r).ph = s.ph ∧ (wc s r).runs = s.runs ∧ (wc s r).out = s.out ∧ (wc s r).lp = s.lp := by
  unfold wc; cases bel r s.out <;> exact ⟨rfl, rfl, rfl, rfl, rfl, rfl, rfl⟩
theorem pX (s : So) : (x5 s).input = s.input ∧ (x5 s).pos = s.pos ∧ (x5 s).wr = s.wr := by
  unfold x5; cases decide (0 < s.out.length) <;> exact ⟨rfl, rfl, rfl⟩
theorem uZ {s x : So} {g : Int} {r : List Rw} (h : StepV s g x r) (h0 : 0 ≤ s.wr) (hw : s.wr ≤ 4611686018427387904) : s.wr ≤ x.wr ∧ x.wr ≤ s.wr + 4 := by
  cases h with
  | @put r => rw [(mo s r).2.2.1]; omega
  | close => rw [show (yQ (x5 s)).wr = s.wr from (pX s).2.2]; omega
  | @pop k r => have c := wY r; simp only [uO]; rw [ux h0 hw c.1 c.2]; omega
  | swap => simp only [yf]; omega
  | merged => simp only [yQ, sT]; omega
  | @left a b rest r => have c := wY r; simp only [uh]; rw [ux h0 hw c.1 c.2]; omega
  | @right a b rest r => have c := wY r; simp only [vQ]; rw [ux h0 hw c.1 c.2]; omega
  | emit => simp only [vr]; omega
theorem lX {s x : So} {g : Int} {r : List Rw} (h : StepV s g x r) : r.length ≤ 1 := by
  cases h <;> simp
def remV (s : So) : Int := cond (decide (s.ph = 3) || decide (s.ph = 4)) (s.input.length - s.lp) s.input.length
inductive Fits (g : Int) : So → Nat → So → Prop where
  | stop {s : So} (h : yv s ≤ g) : Fits g s 0 s
  | step {s x y : So} {r : List Rw} {n : Nat} (h : g < yv s) (st : StepV s g x r) (f : Fits g x n y) : Fits g s (n + 1) y
def pg (s : So) : Nat := s.heap.length + s.dfr.length + cond (decide (s.dfr.length = 0)) 0 1
theorem fC (s : So) : pg s ≤ s.heap.length + s.dfr.length + 1 := by
  unfold pg; cases decide (s.dfr.length = 0) <;> simp
theorem nw {g : Int} (hg : 8 ≤ g) (hg2 : g ≤ 60) : ∀ (n : Nat) {s : So}, pg s ≤ n → VS s → s.wr + 4 * n ≤ 4611686018427387904 → ∃ m y, Fits g s m y ∧ m ≤ n
  | n, s, hn, hv, hw => by
    rcases Int.lt_or_le g (yv s) with h | h
    · have h1 : s.ph = 1 := Classical.byContradiction fun h1 => by have := (sJ h1).2; omega
      obtain ⟨x, r, hs⟩ := nZ (g := g) hv (by rw [h1]; decide)
      have hv' := vO hv hg hg2 (by omega) hs
      have w0 : 0 ≤ s.wr := by cases hv with
        | read b => exact b.wr
        | merge b => exact b.wr
        | emit b => exact b.wr
        | done b => exact b.wr
      have hw' := uZ hs w0 (by omega)
      have key : pg x + 1 ≤ pg s := by
        cases hs with
        | @put r hp hr hf => have := wY r; omega
        | @pop k r hp hf hh hk hr =>
          have := (List.getElem?_eq_some_iff.1 hr).1
          have e1 : (uO s k r).heap.length + 1 = s.heap.length := by simp only [uO, List.length_append, List.length_take, List.length_drop]; omega
          unfold pg
          rw [show (uO s k r).dfr = s.dfr from rfl]
          omega
        | swap hp hf hh hd =>
          simp only [pg, yf, hh, List.length_nil, decide_true, cond_true, decide_eq_false (show ¬ s.dfr.length = 0 by omega), cond_false]; omega
        | close hp hf hh hd => rw [tS h1, hh, hd] at h; simp only [y7] at h; omega
        | merged hp => rw [h1] at hp; cases hp
        | left hp => rw [h1] at hp; cases hp
        | right hp => rw [h1] at hp; cases hp
        | emit hp => rw [h1] at hp; cases hp
      cases n with
      | zero => omega
      | succ n =>
        obtain ⟨m, y, f, hm⟩ := nw hg hg2 n (s := x) (by omega) hv' (by omega)
        exact ⟨m + 1, y, .step h hs f, by omega⟩
    · exact ⟨0, s, .stop h, Nat.zero_le _⟩
end Go.Proofs.Ytojcojanokhnaaa.Ab
namespace Go.Proofs.Ytojcojanokhnaaa.Ab
open Go.RowKit
theorem l4 {rs : List Rn} {k : Nat} {p : Int} (h : p < 0) : rcV rs k p = 0 := by unfold rcV; rw [decide_eq_true h, cond_true]
theorem eF {rs : List Rn} {k : Nat} {p : Int} (h : rs.length ≤ k) : rcV rs k p = 0 := by
  unfold rcV
  rw [List.getD_eq_getElem?_getD, List.getElem?_eq_none h]
  cases decide (p < 0) <;> rfl
theorem eG {rs : List Rn} {k p : Nat} {z : Rn} (hz : rs[k]? = some z) (h : z.length ≤ p) : rcV rs k p = 0 := by
  unfold rcV
  rw [List.getD_eq_getElem?_getD, hz, Option.getD_some, Int.toNat_natCast, List.getElem?_eq_none h]
  cases decide ((p : Int) < 0) <;> rfl
theorem rc_at {rs : List Rn} {k p : Nat} {z : Rn} {x : Rw} (hz : rs[k]? = some z) (hx : z[p]? = some x) : rcV rs k p = yx x := by
  unfold rcV
  rw [List.getD_eq_getElem?_getD, hz, Option.getD_some, Int.toNat_natCast, hx, decide_eq_false (by omega), cond_false]
  show yx x + 0 = yx x
  omega
theorem qA (s : So) (k : Nat) (p : Int) (hok : tZ s.runs) (hk : k ≤ 1) : zy Go.Proofs.Try.prog 89 [.agg (soE s), I k, I p] [] (I (rcV s.runs k p)) [] false := by
  have hl := hok.1
  rcases Nat.lt_or_ge k s.runs.length with h1 | h1
  · obtain ⟨z, hz⟩ : ∃ z, s.runs[k]? = some z := ⟨_, List.getElem?_eq_getElem h1⟩
    have zl := hok.at hz
    rcases Int.lt_or_le p 0 with h2 | h2
    · have e := l4 (rs := s.runs) (k := k) h2
      refine zw [6] Go.Proofs.Try.func89 rfl rfl ?_
      simp only [Go.Proofs.Try.ntmps89, List.length_cons, List.length_nil, Nat.reduceAdd, Nat.reduceSub, List.replicate_succ, List.replicate_zero, List.cons_append, List.nil_append]
      repeat' first | refine zK ?_ | refine zA ?_ | refine zL [] ?_ | (refine isA ?_; refine zf rfl ?_) | (refine isL ?_; refine zU rfl (by kernel_rfl) rfl rfl ?_) | (refine zb rfl ?_; refine zT rfl (by kernel_rfl) rfl rfl ?_) | refine zD ?_ | refine zB _ rfl (by kernel_rfl) ?_ | refine zV rfl ?_ | refine zW rfl ?_ | refine zC ?_ | with_reducible refine zO ?_ | refine zH ?_ | refine zI ?_ | (with_reducible first | refine zM ?_ | refine zN ?_ | refine zE ?_ | refine zG ?_ | refine zF ?_) | refine zP ?_
      refine yW rfl rfl (fun h => absurd (of_decide_eq_true h) (by omega)) (fun h => ?_)
      repeat' first | refine zK ?_ | refine zA ?_ | refine zL [] ?_ | (refine isA ?_; refine zf rfl ?_) | (refine isL ?_; refine zU rfl (by kernel_rfl) rfl rfl ?_) | (refine zb rfl ?_; refine zT rfl (by kernel_rfl) rfl rfl ?_) | refine zD ?_ | refine zB _ rfl (by kernel_rfl) ?_ | refine zV rfl ?_ | refine zW rfl ?_ | refine zC ?_ | with_reducible refine zO ?_ | refine zH ?_ | refine zI ?_ | (with_reducible first | refine zM ?_ | refine zN ?_ | refine zE ?_ | refine zG ?_ | refine zF ?_) | refine zP ?_
      refine yW rfl rfl (fun h => ?_) (fun h => absurd h2 (of_decide_eq_false h))
      repeat' first | refine zK ?_ | refine zA ?_ | refine zL [] ?_ | (refine isA ?_; refine zf rfl ?_) | (refine isL ?_; refine zU rfl (by kernel_rfl) rfl rfl ?_) | (refine zb rfl ?_; refine zT rfl (by kernel_rfl) rfl rfl ?_) | exact yK rfl rfl (by rw [e]) | refine zD ?_ | refine zB _ rfl (by kernel_rfl) ?_ | refine zV rfl ?_ | refine zW rfl ?_ | refine zC ?_ | with_reducible refine zO ?_ | refine zH ?_ | refine zI ?_ | (with_reducible first | refine zM ?_ | refine zN ?_ | refine zE ?_ | refine zG ?_ | refine zF ?_) | refine zP ?_
    · obtain ⟨q, rfl⟩ := Int.eq_ofNat_of_zero_le h2
      rcases Nat.lt_or_ge q z.length with h3 | h3
      · obtain ⟨x, hx⟩ : ∃ y, z[q]? = some y := ⟨_, List.getElem?_eq_getElem h3⟩
        have e := rc_at hz hx
        refine zw [6] Go.Proofs.Try.func89 rfl rfl ?_
        simp only [Go.Proofs.Try.ntmps89, List.length_cons, List.length_nil, Nat.reduceAdd, Nat.reduceSub, List.replicate_succ, List.replicate_zero, List.cons_append, List.nil_append]
        repeat' first | refine zK ?_ | refine zA ?_ | refine zL [] ?_ | (refine isA ?_; refine zf rfl ?_) | (refine isL ?_; refine zU rfl (by kernel_rfl) rfl rfl ?_) | (refine zb rfl ?_; refine zT rfl (by kernel_rfl) rfl rfl ?_) | refine zD ?_ | refine zB _ rfl (by kernel_rfl) ?_ | refine zV rfl ?_ | refine zW rfl ?_ | refine zC ?_ | with_reducible refine zO ?_ | refine zH ?_ | refine zI ?_ | (with_reducible first | refine zM ?_ | refine zN ?_ | refine zE ?_ | refine zG ?_ | refine zF ?_) | refine zP ?_
        refine yW rfl rfl (fun h => absurd (of_decide_eq_true h) (by omega)) (fun h => ?_)
        repeat' first | refine zK ?_ | refine zA ?_ | refine zL [] ?_ | (refine isA ?_; refine zf rfl ?_) | (refine isL ?_; refine zU rfl (by kernel_rfl) rfl rfl ?_) | (refine zb rfl ?_; refine zT rfl (by kernel_rfl) rfl rfl ?_) | refine zD ?_ | refine zB _ rfl (by kernel_rfl) ?_ | refine zV rfl ?_ | refine zW rfl ?_ | refine zC ?_ | with_reducible refine zO ?_ | refine zH ?_ | refine zI ?_ | (with_reducible first | refine zM ?_ | refine zN ?_ | refine zE ?_ | refine zG ?_ | refine zF ?_) | refine zP ?_
        refine yW rfl rfl (fun h => absurd (of_decide_eq_true h) (by omega)) (fun h => ?_)
        repeat' first | refine zK ?_ | refine zA ?_ | refine zL [] ?_ | (refine isA ?_; refine zf rfl ?_) | (refine isL ?_; refine zU rfl (by kernel_rfl) rfl rfl ?_) | (refine zb rfl ?_; refine zT rfl (by kernel_rfl) rfl rfl ?_) | (refine yG (x := .tmp 19) ?_; refine zc rfl (z5 (t := rnT) (z := z) rfl rfl rfl rfl (Int.natCast_nonneg k) hz) rfl ?_) | (refine yF (x := .tmp 19) rfl ?_; refine zX rfl (by kernel_rfl) rfl (z5 (t := rnT) (z := z) rfl rfl rfl rfl (Int.natCast_nonneg k) hz) rfl ?_) | (refine yG (x := .tmp 28) ?_; refine zc rfl (z5 (t := rnT) (z := z) rfl rfl rfl rfl (Int.natCast_nonneg k) hz) rfl ?_) | (refine yF (x := .tmp 28) rfl ?_; refine zX rfl (by kernel_rfl) rfl (z5 (t := rnT) (z := z) rfl rfl rfl rfl (Int.natCast_nonneg k) hz) rfl ?_) | (refine yG (x := .tmp 32) ?_; refine zc rfl (z5 (t := rwT) (z := x) rfl rfl rfl rfl (Int.natCast_nonneg q) hx) rfl ?_) | (refine yF (x := .tmp 32) rfl ?_; refine zX rfl (by kernel_rfl) rfl (z5 (t := rwT) (z := x) rfl rfl rfl rfl (Int.natCast_nonneg q) hx) rfl ?_) | (refine zu 58 ?_; refine zc rfl (zQ rfl (vY x) (.cons (.same rfl) .nil) rfl) rfl ?_) | (refine zv 58 rfl ?_; refine zX rfl (by kernel_rfl) rfl (zQ rfl (vY x) (.cons (.same rfl) .nil) rfl) rfl ?_) | refine zD ?_ | refine zB _ rfl (by kernel_rfl) ?_ | refine zV rfl ?_ | refine zW rfl ?_ | refine zC ?_ | with_reducible refine zO ?_ | refine zH ?_ | refine zI ?_ | (with_reducible first | refine zM ?_ | refine zN ?_ | refine zE ?_ | refine zG ?_ | refine zF ?_) | refine zP ?_
        refine zd rfl (fun h => absurd (of_decide_eq_true h) (by omega)) (fun h => ?_)
        repeat' first | refine zK ?_ | refine zA ?_ | refine zL [] ?_ | (refine isA ?_; refine zf rfl ?_) | (refine isL ?_; refine zU rfl (by kernel_rfl) rfl rfl ?_) | (refine zb rfl ?_; refine zT rfl (by kernel_rfl) rfl rfl ?_) | (refine yG (x := .tmp 19) ?_; refine zc rfl (z5 (t := rnT) (z := z) rfl rfl rfl rfl (Int.natCast_nonneg k) hz) rfl ?_) | (refine yF (x := .tmp 19) rfl ?_; refine zX rfl (by kernel_rfl) rfl (z5 (t := rnT) (z := z) rfl rfl rfl rfl (Int.natCast_nonneg k) hz) rfl ?_) | (refine yG (x := .tmp 28) ?_; refine zc rfl (z5 (t := rnT) (z := z) rfl rfl rfl rfl (Int.natCast_nonneg k) hz) rfl ?_) | (refine yF (x := .tmp 28) rfl ?_; refine zX rfl (by kernel_rfl) rfl (z5 (t := rnT) (z := z) rfl rfl rfl rfl (Int.natCast_nonneg k) hz) rfl ?_) | (refine yG (x := .tmp 32) ?_; refine zc rfl (z5 (t := rwT) (z := x) rfl rfl rfl rfl (Int.natCast_nonneg q) hx) rfl ?_) | (refine yF (x := .tmp 32) rfl ?_; refine zX rfl (by kernel_rfl) rfl (z5 (t := rwT) (z := x) rfl rfl rfl rfl (Int.natCast_nonneg q) hx) rfl ?_) | (refine zu 58 ?_; refine zc rfl (zQ rfl (vY x) (.cons (.same rfl) .nil) rfl) rfl ?_) | (refine zv 58 rfl ?_; refine zX rfl (by kernel_rfl) rfl (zQ rfl (vY x) (.cons (.same rfl) .nil) rfl) rfl ?_) | exact yK rfl rfl (by rw [e]) | refine zD ?_ | refine zB _ rfl (by kernel_rfl) ?_ | refine zV rfl ?_ | refine zW rfl ?_ | refine zC ?_ | with_reducible refine zO ?_ | refine zH ?_ | refine zI ?_ | (with_reducible first | refine zM ?_ | refine zN ?_ | refine zE ?_ | refine zG ?_ | refine zF ?_) | refine zP ?_
      · have e := eG hz h3
        refine zw [6] Go.Proofs.Try.func89 rfl rfl ?_
        simp only [Go.Proofs.Try.ntmps89, List.length_cons, List.length_nil, Nat.reduceAdd, Nat.reduceSub, List.replicate_succ, List.replicate_zero, List.cons_append, List.nil_append]
        repeat' first | refine zK ?_ | refine zA ?_ | refine zL [] ?_ | (refine isA ?_; refine zf rfl ?_) | (refine isL ?_; refine zU rfl (by kernel_rfl) rfl rfl ?_) | (refine zb rfl ?_; refine zT rfl (by kernel_rfl) rfl rfl ?_) | refine zD ?_ | refine zB _ rfl (by kernel_rfl) ?_ | refine zV rfl ?_ | refine zW rfl ?_ | refine zC ?_ | with_reducible refine zO ?_ | refine zH ?_ | refine zI ?_ | (with_reducible first | refine zM ?_ | refine zN ?_ | refine zE ?_ | refine zG ?_ | refine zF ?_) | refine zP ?_
        refine yW rfl rfl (fun h => absurd (of_decide_eq_true h) (by omega)) (fun h => ?_)
        repeat' first | refine zK ?_ | refine zA ?_ | refine zL [] ?_ | (refine isA ?_; refine zf rfl ?_) | (refine isL ?_; refine zU rfl (by kernel_rfl) rfl rfl ?_) | (refine zb rfl ?_; refine zT rfl (by kernel_rfl) rfl rfl ?_) | refine zD ?_ | refine zB _ rfl (by kernel_rfl) ?_ | refine zV rfl ?_ | refine zW rfl ?_ | refine zC ?_ | with_reducible refine zO ?_ | refine zH ?_ | refine zI ?_ | (with_reducible first | refine zM ?_ | refine zN ?_ | refine zE ?_ | refine zG ?_ | refine zF ?_) | refine zP ?_
        refine yW rfl rfl (fun h => absurd (of_decide_eq_true h) (by omega)) (fun h => ?_)
        repeat' first | refine zK ?_ | refine zA ?_ | refine zL [] ?_ | (refine isA ?_; refine zf rfl ?_) | (refine isL ?_; refine zU rfl (by kernel_rfl) rfl rfl ?_) | (refine zb rfl ?_; refine zT rfl (by kernel_rfl) rfl rfl ?_) | (refine yG (x := .tmp 19) ?_; refine zc rfl (z5 (t := rnT) (z := z) rfl rfl rfl rfl (Int.natCast_nonneg k) hz) rfl ?_) | (refine yF (x := .tmp 19) rfl ?_; refine zX rfl (by kernel_rfl) rfl (z5 (t := rnT) (z := z) rfl rfl rfl rfl (Int.natCast_nonneg k) hz) rfl ?_) | refine zD ?_ | refine zB _ rfl (by kernel_rfl) ?_ | refine zV rfl ?_ | refine zW rfl ?_ | refine zC ?_ | with_reducible refine zO ?_ | refine zH ?_ | refine zI ?_ | (with_reducible first | refine zM ?_ | refine zN ?_ | refine zE ?_ | refine zG ?_ | refine zF ?_) | refine zP ?_
        refine zd rfl (fun h => ?_) (fun h => absurd (of_decide_eq_false h) (by omega))
        repeat' first | refine zK ?_ | refine zA ?_ | refine zL [] ?_ | (refine isA ?_; refine zf rfl ?_) | (refine isL ?_; refine zU rfl (by kernel_rfl) rfl rfl ?_) | (refine zb rfl ?_; refine zT rfl (by kernel_rfl) rfl rfl ?_) | exact yK rfl rfl (by rw [e]) | refine zD ?_ | refine zB _ rfl (by kernel_rfl) ?_ | refine zV rfl ?_ | refine zW rfl ?_ | refine zC ?_ | with_reducible refine zO ?_ | refine zH ?_ | refine zI ?_ | (with_reducible first | refine zM ?_ | refine zN ?_ | refine zE ?_ | refine zG ?_ | refine zF ?_) | refine zP ?_
  · have e := eF (p := p) h1
    refine zw [6] Go.Proofs.Try.func89 rfl rfl ?_
    simp only [Go.Proofs.Try.ntmps89, List.length_cons, List.length_nil, Nat.reduceAdd, Nat.reduceSub, List.replicate_succ, List.replicate_zero, List.cons_append, List.nil_append]
    repeat' first | refine zK ?_ | refine zA ?_ | refine zL [] ?_ | (refine isA ?_; refine zf rfl ?_) | (refine isL ?_; refine zU rfl (by kernel_rfl) rfl rfl ?_) | (refine zb rfl ?_; refine zT rfl (by kernel_rfl) rfl rfl ?_) | refine zD ?_ | refine zB _ rfl (by kernel_rfl) ?_ | refine zV rfl ?_ | refine zW rfl ?_ | refine zC ?_ | with_reducible refine zO ?_ | refine zH ?_ | refine zI ?_ | (with_reducible first | refine zM ?_ | refine zN ?_ | refine zE ?_ | refine zG ?_ | refine zF ?_) | refine zP ?_
    refine yW rfl rfl (fun h => ?_) (fun h => absurd (of_decide_eq_false h) (by omega))
    repeat' first | refine zK ?_ | refine zA ?_ | refine zL [] ?_ | (refine isA ?_; refine zf rfl ?_) | (refine isL ?_; refine zU rfl (by kernel_rfl) rfl rfl ?_) | (refine zb rfl ?_; refine zT rfl (by kernel_rfl) rfl rfl ?_) | exact yK rfl rfl (by rw [e]) | refine zD ?_ | refine zB _ rfl (by kernel_rfl) ?_ | refine zV rfl ?_ | refine zW rfl ?_ | refine zC ?_ | with_reducible refine zO ?_ | refine zH ?_ | refine zI ?_ | (with_reducible first | refine zM ?_ | refine zN ?_ | refine zE ?_ | refine zG ?_ | refine zF ?_) | refine zP ?_
def wF (rs : List Rn) (k p : Nat) : List Rw := ((rs.getD k [])[p]?).toList
theorem qR (rs : List Rn) (k p : Nat) : (wF rs k p).length ≤ 1 := by
  unfold wF; cases (rs.getD k [])[p]? <;> simp
theorem pz (rs : List Rn) (k p : Nat) : rcV rs k p = y7 (wF rs k p) := by
  unfold rcV wF
  rw [decide_eq_false (by omega), cond_false, Int.toNat_natCast]
theorem wA (rs : List Rn) (k p : Nat) (hok : tZ rs) (hk : k ≤ 1) : zy Go.Proofs.Try.prog 71 [rnL rs, I k, I p] [] (rwL (wF rs k p)) [] true := by
  have hl := hok.1
  rcases Nat.lt_or_ge k rs.length with h1 | h1
  · obtain ⟨z, hz⟩ : ∃ z, rs[k]? = some z := ⟨_, List.getElem?_eq_getElem h1⟩
    have zl := hok.at hz
    rcases Nat.lt_or_ge p z.length with h3 | h3
    · obtain ⟨x, hx⟩ : ∃ y, z[p]? = some y := ⟨_, List.getElem?_eq_getElem h3⟩
      have e : wF rs k p = [x] := by unfold wF; rw [List.getD_eq_getElem?_getD, hz, Option.getD_some, hx]; rfl
      rw [e]
      refine zw [6] Go.Proofs.Try.func71 rfl rfl ?_
      simp only [Go.Proofs.Try.ntmps71, List.length_cons, List.length_nil, Nat.reduceAdd, Nat.reduceSub, List.replicate_succ, List.replicate_zero, List.cons_append, List.nil_append]
      repeat' first | refine zK ?_ | refine zA ?_ | refine zL [] ?_ | (refine isA ?_; refine zf rfl ?_) | (refine isL ?_; refine zU rfl (by kernel_rfl) rfl rfl ?_) | (refine zb rfl ?_; refine zT rfl (by kernel_rfl) rfl rfl ?_) | refine zD ?_ | refine zB _ rfl (by kernel_rfl) ?_ | refine zV rfl ?_ | refine zW rfl ?_ | refine zC ?_ | with_reducible refine zO ?_ | refine zH ?_ | refine zI ?_ | (with_reducible first | refine zM ?_ | refine zN ?_ | refine zE ?_ | refine zG ?_ | refine zF ?_) | refine zP ?_
      refine yW rfl rfl (fun h => ?_) (fun h => absurd (of_decide_eq_false h) (by omega))
      repeat' first | refine zK ?_ | refine zA ?_ | refine zL [] ?_ | (refine isA ?_; refine zf rfl ?_) | (refine isL ?_; refine zU rfl (by kernel_rfl) rfl rfl ?_) | (refine zb rfl ?_; refine zT rfl (by kernel_rfl) rfl rfl ?_) | (refine yG (x := .tmp 13) ?_; refine zc rfl (z5 (t := rnT) (z := z) rfl rfl rfl rfl (Int.natCast_nonneg k) hz) rfl ?_) | (refine yF (x := .tmp 13) rfl ?_; refine zX rfl (by kernel_rfl) rfl (z5 (t := rnT) (z := z) rfl rfl rfl rfl (Int.natCast_nonneg k) hz) rfl ?_) | refine zD ?_ | refine zB _ rfl (by kernel_rfl) ?_ | refine zV rfl ?_ | refine zW rfl ?_ | refine zC ?_ | with_reducible refine zO ?_ | refine zH ?_ | refine zI ?_ | (with_reducible first | refine zM ?_ | refine zN ?_ | refine zE ?_ | refine zG ?_ | refine zF ?_) | refine zP ?_
      refine zd rfl (fun h => ?_) (fun h => absurd (of_decide_eq_false h) (by omega))
      repeat' first | (refine isA ?_; refine zc rfl (yN rfl rfl rfl rfl rfl) rfl ?_) | refine zK ?_ | refine zA ?_ | refine zL [] ?_ | (refine isA ?_; refine zf rfl ?_) | (refine isL ?_; refine zU rfl (by kernel_rfl) rfl rfl ?_) | (refine zb rfl ?_; refine zT rfl (by kernel_rfl) rfl rfl ?_) | (refine yG (x := .tmp 21) ?_; refine zc rfl (z5 (t := rnT) (z := z) rfl rfl rfl rfl (Int.natCast_nonneg k) hz) rfl ?_) | (refine yF (x := .tmp 21) rfl ?_; refine zX rfl (by kernel_rfl) rfl (z5 (t := rnT) (z := z) rfl rfl rfl rfl (Int.natCast_nonneg k) hz) rfl ?_) | (refine yG (x := .tmp 25) ?_; refine zc rfl (z5 (t := rwT) (z := x) rfl rfl rfl rfl (Int.natCast_nonneg p) hx) rfl ?_) | (refine yF (x := .tmp 25) rfl ?_; refine zX rfl (by kernel_rfl) rfl (z5 (t := rwT) (z := x) rfl rfl rfl rfl (Int.natCast_nonneg p) hx) rfl ?_) | exact eO rfl (.same rfl) | refine zD ?_ | refine zB _ rfl (by kernel_rfl) ?_ | refine zV rfl ?_ | refine zW rfl ?_ | refine zC ?_ | with_reducible refine zO ?_ | refine zH ?_ | refine zI ?_ | (with_reducible first | refine zM ?_ | refine zN ?_ | refine zE ?_ | refine zG ?_ | refine zF ?_) | refine zP ?_
    · have e : wF rs k p = [] := by unfold wF; rw [List.getD_eq_getElem?_getD, hz, Option.getD_some, List.getElem?_eq_none h3]; rfl
      rw [e]
      refine zw [6] Go.Proofs.Try.func71 rfl rfl ?_
      simp only [Go.Proofs.Try.ntmps71, List.length_cons, List.length_nil, Nat.reduceAdd, Nat.reduceSub, List.replicate_succ, List.replicate_zero, List.cons_append, List.nil_append]
      repeat' first | refine zK ?_ | refine zA ?_ | refine zL [] ?_ | (refine isA ?_; refine zf rfl ?_) | (refine isL ?_; refine zU rfl (by kernel_rfl) rfl rfl ?_) | (refine zb rfl ?_; refine zT rfl (by kernel_rfl) rfl rfl ?_) | refine zD ?_ | refine zB _ rfl (by kernel_rfl) ?_ | refine zV rfl ?_ | refine zW rfl ?_ | refine zC ?_ | with_reducible refine zO ?_ | refine zH ?_ | refine zI ?_ | (with_reducible first | refine zM ?_ | refine zN ?_ | refine zE ?_ | refine zG ?_ | refine zF ?_) | refine zP ?_
      refine yW rfl rfl (fun h => ?_) (fun h => absurd (of_decide_eq_false h) (by omega))
      repeat' first | refine zK ?_ | refine zA ?_ | refine zL [] ?_ | (refine isA ?_; refine zf rfl ?_) | (refine isL ?_; refine zU rfl (by kernel_rfl) rfl rfl ?_) | (refine zb rfl ?_; refine zT rfl (by kernel_rfl) rfl rfl ?_) | (refine yG (x := .tmp 13) ?_; refine zc rfl (z5 (t := rnT) (z := z) rfl rfl rfl rfl (Int.natCast_nonneg k) hz) rfl ?_) | (refine yF (x := .tmp 13) rfl ?_; refine zX rfl (by kernel_rfl) rfl (z5 (t := rnT) (z := z) rfl rfl rfl rfl (Int.natCast_nonneg k) hz) rfl ?_) | refine zD ?_ | refine zB _ rfl (by kernel_rfl) ?_ | refine zV rfl ?_ | refine zW rfl ?_ | refine zC ?_ | with_reducible refine zO ?_ | refine zH ?_ | refine zI ?_ | (with_reducible first | refine zM ?_ | refine zN ?_ | refine zE ?_ | refine zG ?_ | refine zF ?_) | refine zP ?_
      refine zd rfl (fun h => absurd (of_decide_eq_true h) (by omega)) (fun h => ?_)
      repeat' first | (refine isA ?_; refine zc rfl (yN rfl rfl rfl rfl rfl) rfl ?_) | refine zK ?_ | refine zA ?_ | refine zL [] ?_ | (refine isA ?_; refine zf rfl ?_) | (refine isL ?_; refine zU rfl (by kernel_rfl) rfl rfl ?_) | (refine zb rfl ?_; refine zT rfl (by kernel_rfl) rfl rfl ?_) | exact eO rfl (.same rfl) | refine zD ?_ | refine zB _ rfl (by kernel_rfl) ?_ | refine zV rfl ?_ | refine zW rfl ?_ | refine zC ?_ | with_reducible refine zO ?_ | refine zH ?_ | refine zI ?_ | (with_reducible first | refine zM ?_ | refine zN ?_ | refine zE ?_ | refine zG ?_ | refine zF ?_) | refine zP ?_
  · have e : wF rs k p = [] := by unfold wF; rw [List.getD_eq_getElem?_getD, List.getElem?_eq_none h1]; rfl
    rw [e]
    refine zw [6] Go.Proofs.Try.func71 rfl rfl ?_
    simp only [Go.Proofs.Try.ntmps71, List.length_cons, List.length_nil, Nat.reduceAdd, Nat.reduceSub, List.replicate_succ, List.replicate_zero, List.cons_append, List.nil_append]
    repeat' first | refine zK ?_ | refine zA ?_ | refine zL [] ?_ | (refine isA ?_; refine zf rfl ?_) | (refine isL ?_; refine zU rfl (by kernel_rfl) rfl rfl ?_) | (refine zb rfl ?_; refine zT rfl (by kernel_rfl) rfl rfl ?_) | refine zD ?_ | refine zB _ rfl (by kernel_rfl) ?_ | refine zV rfl ?_ | refine zW rfl ?_ | refine zC ?_ | with_reducible refine zO ?_ | refine zH ?_ | refine zI ?_ | (with_reducible first | refine zM ?_ | refine zN ?_ | refine zE ?_ | refine zG ?_ | refine zF ?_) | refine zP ?_
    refine yW rfl rfl (fun h => absurd (of_decide_eq_true h) (by omega)) (fun h => ?_)
    repeat' first | (refine isA ?_; refine zc rfl (yN rfl rfl rfl rfl rfl) rfl ?_) | refine zK ?_ | refine zA ?_ | refine zL [] ?_ | (refine isA ?_; refine zf rfl ?_) | (refine isL ?_; refine zU rfl (by kernel_rfl) rfl rfl ?_) | (refine zb rfl ?_; refine zT rfl (by kernel_rfl) rfl rfl ?_) | exact eO rfl (.same rfl) | refine zD ?_ | refine zB _ rfl (by kernel_rfl) ?_ | refine zV rfl ?_ | refine zW rfl ?_ | refine zC ?_ | with_reducible refine zO ?_ | refine zH ?_ | refine zI ?_ | (with_reducible first | refine zM ?_ | refine zN ?_ | refine zE ?_ | refine zG ?_ | refine zF ?_) | refine zP ?_
theorem fi {s : So} (h : s.ph = 2) : yv s = cond (decide (s.lp < 0) || decide (s.rp < 0)) 0 (rcV s.runs 0 s.lp + rcV s.runs 1 s.rp) := by
  unfold yv; rw [decide_eq_false (by rw [h]; decide), cond_false, decide_eq_true h, cond_true]
theorem fh {s : So} (h : s.ph = 3) : yv s = rcV s.runs 0 s.lp := by
  unfold yv; rw [decide_eq_false (by rw [h]; decide), cond_false, decide_eq_false (by rw [h]; decide), cond_false, decide_eq_true h, cond_true]
theorem fj {s : So} (h1 : s.ph ≠ 1) (h2 : s.ph ≠ 2) (h3 : s.ph ≠ 3) : yv s = 0 := by
  unfold yv; rw [decide_eq_false h1, cond_false, decide_eq_false h2, cond_false, decide_eq_false h3, cond_false]
theorem uX {a b : Int} (h : 0 ≤ a ∧ a ≤ 4000000000) (k : 0 ≤ b ∧ b ≤ 4000000000) : IntKind.i64.wrap (a + b) = a + b := by rw [IntKind.wrap_i64]; omega
theorem tK (s : So) (hok : okSo s) : zy Go.Proofs.Try.prog 19 [.agg (soE s)] [] (I (yv s)) [] false := by
  have g2 := hok.heap
  have g3 := hok.dfr
  have t2 := uE s.heap
  have t3 := uE s.dfr
  have r0 := mn s.runs 0 s.lp
  have r1 := mn s.runs 1 s.rp
  have c0 := qA s 0 s.lp hok.rn (by omega)
  have c1 := qA s 1 s.rp hok.rn (by omega)
  refine zw [2] Go.Proofs.Try.func19 rfl rfl ?_
  simp only [Go.Proofs.Try.ntmps19, List.length_cons, List.length_nil, Nat.reduceAdd, Nat.reduceSub, List.replicate_succ, List.replicate_zero, List.cons_append, List.nil_append]
  repeat' first | refine zK ?_ | refine zA ?_ | refine zL [] ?_ | (refine isA ?_; refine zf rfl ?_) | (refine isL ?_; refine zU rfl (by kernel_rfl) rfl rfl ?_) | (refine zb rfl ?_; refine zT rfl (by kernel_rfl) rfl rfl ?_) | refine zD ?_ | refine zB _ rfl (by kernel_rfl) ?_ | refine zV rfl ?_ | refine zW rfl ?_ | refine zC ?_ | with_reducible refine zO ?_ | refine zH ?_ | refine zI ?_ | (with_reducible first | refine zM ?_ | refine zN ?_ | refine zE ?_ | refine zG ?_ | refine zF ?_) | refine zP ?_
  refine zd rfl (fun h => ?_) (fun h => ?_)
  · have e := tS (of_decide_eq_true h)
    repeat' first | refine zK ?_ | refine zA ?_ | refine zL [] ?_ | (refine isA ?_; refine zf rfl ?_) | (refine isL ?_; refine zU rfl (by kernel_rfl) rfl rfl ?_) | (refine zb rfl ?_; refine zT rfl (by kernel_rfl) rfl rfl ?_) | (refine zu 88 (x := #[.tmp 8]) ?_; refine zc rfl (zQ rfl (qi s.heap (by omega)) (.cons (.same rfl) .nil) rfl) rfl ?_) | (refine zv 88 (x := #[.tmp 8]) rfl ?_; refine zX rfl (by kernel_rfl) rfl (zQ rfl (qi s.heap (by omega)) (.cons (.same rfl) .nil) rfl) rfl ?_) | (refine zu 88 (x := #[.tmp 11]) ?_; refine zc rfl (zQ rfl (qi s.dfr (by omega)) (.cons (.same rfl) .nil) rfl) rfl ?_) | (refine zv 88 (x := #[.tmp 11]) rfl ?_; refine zX rfl (by kernel_rfl) rfl (zQ rfl (qi s.dfr (by omega)) (.cons (.same rfl) .nil) rfl) rfl ?_) | exact yK rfl rfl (by rw [e, uX (by omega) (by omega)]) | refine zD ?_ | refine zB _ rfl (by kernel_rfl) ?_ | refine zV rfl ?_ | refine zW rfl ?_ | refine zC ?_ | with_reducible refine zO ?_ | refine zH ?_ | refine zI ?_ | (with_reducible first | refine zM ?_ | refine zN ?_ | refine zE ?_ | refine zG ?_ | refine zF ?_) | refine zP ?_
  have h1 := of_decide_eq_false h
  repeat' first | refine zK ?_ | refine zA ?_ | refine zL [] ?_ | (refine isA ?_; refine zf rfl ?_) | (refine isL ?_; refine zU rfl (by kernel_rfl) rfl rfl ?_) | (refine zb rfl ?_; refine zT rfl (by kernel_rfl) rfl rfl ?_) | refine zD ?_ | refine zB _ rfl (by kernel_rfl) ?_ | refine zV rfl ?_ | refine zW rfl ?_ | refine zC ?_ | with_reducible refine zO ?_ | refine zH ?_ | refine zI ?_ | (with_reducible first | refine zM ?_ | refine zN ?_ | refine zE ?_ | refine zG ?_ | refine zF ?_) | refine zP ?_
  refine zd rfl (fun h => ?_) (fun h => ?_)
  · have e := fi (of_decide_eq_true h)
    repeat' first | refine zK ?_ | refine zA ?_ | refine zL [] ?_ | (refine isA ?_; refine zf rfl ?_) | (refine isL ?_; refine zU rfl (by kernel_rfl) rfl rfl ?_) | (refine zb rfl ?_; refine zT rfl (by kernel_rfl) rfl rfl ?_) | (refine zu 89 ?_; refine zc rfl (zQ rfl c0 (.cons (.same rfl) (.cons (.same rfl) (.cons (.same rfl) .nil))) rfl) rfl ?_) | (refine zv 89 rfl ?_; refine zX rfl (by kernel_rfl) rfl (zQ rfl c0 (.cons (.same rfl) (.cons (.same rfl) (.cons (.same rfl) .nil))) rfl) rfl ?_) | (refine zu 89 ?_; refine zc rfl (zQ rfl c1 (.cons (.same rfl) (.cons (.same rfl) (.cons (.same rfl) .nil))) rfl) rfl ?_) | (refine zv 89 rfl ?_; refine zX rfl (by kernel_rfl) rfl (zQ rfl c1 (.cons (.same rfl) (.cons (.same rfl) (.cons (.same rfl) .nil))) rfl) rfl ?_) | refine zD ?_ | refine zB _ rfl (by kernel_rfl) ?_ | refine zV rfl ?_ | refine zW rfl ?_ | refine zC ?_ | with_reducible refine zO ?_ | refine zH ?_ | refine zI ?_ | (with_reducible first | refine zM ?_ | refine zN ?_ | refine zE ?_ | refine zG ?_ | refine zF ?_) | refine zP ?_ | refine zd rfl (fun hbr => ?_) (fun hbr => ?_) | (refine wB ?_; refine yW rfl rfl (fun hbr => ?_) (fun hbr => ?_) <;> (fail_if_success (with_reducible (have hx : true = true := hbr))) <;> (fail_if_success (with_reducible (have hx : false = false := hbr)))) | (refine zb rfl ?_; refine yI rfl rfl rfl rfl (fun hbr => ?_) (fun hbr => ?_) <;> (fail_if_success (with_reducible (have hx : true = true := hbr))) <;> (fail_if_success (with_reducible (have hx : false = false := hbr))))
    all_goals exact yK rfl rfl (by simp_all; try exact uX (by omega) (by omega))
  have h2 := of_decide_eq_false h
  repeat' first | refine zK ?_ | refine zA ?_ | refine zL [] ?_ | (refine isA ?_; refine zf rfl ?_) | (refine isL ?_; refine zU rfl (by kernel_rfl) rfl rfl ?_) | (refine zb rfl ?_; refine zT rfl (by kernel_rfl) rfl rfl ?_) | refine zD ?_ | refine zB _ rfl (by kernel_rfl) ?_ | refine zV rfl ?_ | refine zW rfl ?_ | refine zC ?_ | with_reducible refine zO ?_ | refine zH ?_ | refine zI ?_ | (with_reducible first | refine zM ?_ | refine zN ?_ | refine zE ?_ | refine zG ?_ | refine zF ?_) | refine zP ?_
  refine zd rfl (fun h => ?_) (fun h => ?_)
  · have e := fh (of_decide_eq_true h)
    repeat' first | refine zK ?_ | refine zA ?_ | refine zL [] ?_ | (refine isA ?_; refine zf rfl ?_) | (refine isL ?_; refine zU rfl (by kernel_rfl) rfl rfl ?_) | (refine zb rfl ?_; refine zT rfl (by kernel_rfl) rfl rfl ?_) | (refine zu 89 ?_; refine zc rfl (zQ rfl c0 (.cons (.same rfl) (.cons (.same rfl) (.cons (.same rfl) .nil))) rfl) rfl ?_) | (refine zv 89 rfl ?_; refine zX rfl (by kernel_rfl) rfl (zQ rfl c0 (.cons (.same rfl) (.cons (.same rfl) (.cons (.same rfl) .nil))) rfl) rfl ?_) | exact yK rfl rfl (by rw [e]) | refine zD ?_ | refine zB _ rfl (by kernel_rfl) ?_ | refine zV rfl ?_ | refine zW rfl ?_ | refine zC ?_ | with_reducible refine zO ?_ | refine zH ?_ | refine zI ?_ | (with_reducible first | refine zM ?_ | refine zN ?_ | refine zE ?_ | refine zG ?_ | refine zF ?_) | refine zP ?_
  · have e := fj h1 h2 (of_decide_eq_false h)
    repeat' first | refine zK ?_ | refine zA ?_ | refine zL [] ?_ | (refine isA ?_; refine zf rfl ?_) | (refine isL ?_; refine zU rfl (by kernel_rfl) rfl rfl ?_) | (refine zb rfl ?_; refine zT rfl (by kernel_rfl) rfl rfl ?_) | exact yK rfl rfl (by rw [e]) | refine zD ?_ | refine zB _ rfl (by kernel_rfl) ?_ | refine zV rfl ?_ | refine zW rfl ?_ | refine zC ?_ | with_reducible refine zO ?_ | refine zH ?_ | refine zI ?_ | (with_reducible first | refine zM ?_ | refine zN ?_ | refine zE ?_ | refine zG ?_ | refine zF ?_) | refine zP ?_
theorem qg (s : So) (hok : okSo s) : zy Go.Proofs.Try.prog 20 [.agg (soE s)] [] (I (yv s)) [] false := by
  have g2 := hok.heap
  have g3 := hok.dfr
  have t2 := uE s.heap
  have t3 := uE s.dfr
  have r0 := mn s.runs 0 s.lp
  have r1 := mn s.runs 1 s.rp
  refine zw [2] Go.Proofs.Try.func20 rfl rfl ?_
  simp only [Go.Proofs.Try.ntmps20, List.length_cons, List.length_nil, Nat.reduceAdd, Nat.reduceSub, List.replicate_succ, List.replicate_zero, List.cons_append, List.nil_append]
  repeat' first | refine zK ?_ | refine zA ?_ | refine zL [] ?_ | (refine isA ?_; refine zf rfl ?_) | (refine isL ?_; refine zU rfl (by kernel_rfl) rfl rfl ?_) | (refine zb rfl ?_; refine zT rfl (by kernel_rfl) rfl rfl ?_) | refine zD ?_ | refine zB _ rfl (by kernel_rfl) ?_ | refine zV rfl ?_ | refine zW rfl ?_ | refine zC ?_ | with_reducible refine zO ?_ | refine zH ?_ | refine zI ?_ | (with_reducible first | refine zM ?_ | refine zN ?_ | refine zE ?_ | refine zG ?_ | refine zF ?_) | refine zP ?_
  refine zd rfl (fun h => ?_) (fun h => ?_)
  · have e := tS (of_decide_eq_true h)
    repeat' first | refine zK ?_ | refine zA ?_ | refine zL [] ?_ | (refine isA ?_; refine zf rfl ?_) | (refine isL ?_; refine zU rfl (by kernel_rfl) rfl rfl ?_) | (refine zb rfl ?_; refine zT rfl (by kernel_rfl) rfl rfl ?_) | (refine zu 90 (x := #[.tmp 8]) ?_; refine zc rfl (zQ rfl (vC s.heap (by omega)) (.cons (.same rfl) .nil) rfl) rfl ?_) | (refine zv 90 (x := #[.tmp 8]) rfl ?_; refine zX rfl (by kernel_rfl) rfl (zQ rfl (vC s.heap (by omega)) (.cons (.same rfl) .nil) rfl) rfl ?_) | (refine zu 90 (x := #[.tmp 11]) ?_; refine zc rfl (zQ rfl (vC s.dfr (by omega)) (.cons (.same rfl) .nil) rfl) rfl ?_) | (refine zv 90 (x := #[.tmp 11]) rfl ?_; refine zX rfl (by kernel_rfl) rfl (zQ rfl (vC s.dfr (by omega)) (.cons (.same rfl) .nil) rfl) rfl ?_) | exact yK rfl rfl (by rw [e, uX (by omega) (by omega)]) | refine zD ?_ | refine zB _ rfl (by kernel_rfl) ?_ | refine zV rfl ?_ | refine zW rfl ?_ | refine zC ?_ | with_reducible refine zO ?_ | refine zH ?_ | refine zI ?_ | (with_reducible first | refine zM ?_ | refine zN ?_ | refine zE ?_ | refine zG ?_ | refine zF ?_) | refine zP ?_
  have h1 := of_decide_eq_false h
  repeat' first | refine zK ?_ | refine zA ?_ | refine zL [] ?_ | (refine isA ?_; refine zf rfl ?_) | (refine isL ?_; refine zU rfl (by kernel_rfl) rfl rfl ?_) | (refine zb rfl ?_; refine zT rfl (by kernel_rfl) rfl rfl ?_) | refine zD ?_ | refine zB _ rfl (by kernel_rfl) ?_ | refine zV rfl ?_ | refine zW rfl ?_ | refine zC ?_ | with_reducible refine zO ?_ | refine zH ?_ | refine zI ?_ | (with_reducible first | refine zM ?_ | refine zN ?_ | refine zE ?_ | refine zG ?_ | refine zF ?_) | refine zP ?_
  refine zd rfl (fun h => ?_) (fun h => ?_)
  · have e := fi (of_decide_eq_true h)
    repeat' first | refine zK ?_ | refine zA ?_ | refine zL [] ?_ | (refine isA ?_; refine zf rfl ?_) | (refine isL ?_; refine zU rfl (by kernel_rfl) rfl rfl ?_) | (refine zb rfl ?_; refine zT rfl (by kernel_rfl) rfl rfl ?_) | refine zD ?_ | refine zB _ rfl (by kernel_rfl) ?_ | refine zV rfl ?_ | refine zW rfl ?_ | refine zC ?_ | with_reducible refine zO ?_ | refine zH ?_ | refine zI ?_ | (with_reducible first | refine zM ?_ | refine zN ?_ | refine zE ?_ | refine zG ?_ | refine zF ?_) | refine zP ?_
    refine yW rfl rfl (fun p => ?_) (fun p => ?_)
    · repeat' first | refine zK ?_ | refine zA ?_ | refine zL [] ?_ | (refine isA ?_; refine zf rfl ?_) | (refine isL ?_; refine zU rfl (by kernel_rfl) rfl rfl ?_) | (refine zb rfl ?_; refine zT rfl (by kernel_rfl) rfl rfl ?_) | exact yK rfl rfl (by rw [e, p]; rfl) | refine zD ?_ | refine zB _ rfl (by kernel_rfl) ?_ | refine zV rfl ?_ | refine zW rfl ?_ | refine zC ?_ | with_reducible refine zO ?_ | refine zH ?_ | refine zI ?_ | (with_reducible first | refine zM ?_ | refine zN ?_ | refine zE ?_ | refine zG ?_ | refine zF ?_) | refine zP ?_
    · repeat' first | refine zK ?_ | refine zA ?_ | refine zL [] ?_ | (refine isA ?_; refine zf rfl ?_) | (refine isL ?_; refine zU rfl (by kernel_rfl) rfl rfl ?_) | (refine zb rfl ?_; refine zT rfl (by kernel_rfl) rfl rfl ?_) | refine zD ?_ | refine zB _ rfl (by kernel_rfl) ?_ | refine zV rfl ?_ | refine zW rfl ?_ | refine zC ?_ | with_reducible refine zO ?_ | refine zH ?_ | refine zI ?_ | (with_reducible first | refine zM ?_ | refine zN ?_ | refine zE ?_ | refine zG ?_ | refine zF ?_) | refine zP ?_
      refine zd rfl (fun q => ?_) (fun q => ?_)
      · repeat' first | refine zK ?_ | refine zA ?_ | refine zL [] ?_ | (refine isA ?_; refine zf rfl ?_) | (refine isL ?_; refine zU rfl (by kernel_rfl) rfl rfl ?_) | (refine zb rfl ?_; refine zT rfl (by kernel_rfl) rfl rfl ?_) | exact yK rfl rfl (by rw [e, p, q]; rfl) | refine zD ?_ | refine zB _ rfl (by kernel_rfl) ?_ | refine zV rfl ?_ | refine zW rfl ?_ | refine zC ?_ | with_reducible refine zO ?_ | refine zH ?_ | refine zI ?_ | (with_reducible first | refine zM ?_ | refine zN ?_ | refine zE ?_ | refine zG ?_ | refine zF ?_) | refine zP ?_
      · obtain ⟨i, hi⟩ := Int.eq_ofNat_of_zero_le (show 0 ≤ s.lp from Int.not_lt.1 (of_decide_eq_false p))
        obtain ⟨j, hj⟩ := Int.eq_ofNat_of_zero_le (show 0 ≤ s.rp from Int.not_lt.1 (of_decide_eq_false q))
        have e' : yv s = y7 (wF s.runs 0 i) + y7 (wF s.runs 1 j) := by rw [e, p, q, hi, hj]; rw [← pz, ← pz]; try rfl
        have c0 := wA s.runs 0 i hok.rn (by omega)
        have c1 := wA s.runs 1 j hok.rn (by omega)
        rw [← hi] at c0
        rw [← hj] at c1
        have b0 := qR s.runs 0 i
        have b1 := qR s.runs 1 j
        have u0 := uE (wF s.runs 0 i)
        have u1 := uE (wF s.runs 1 j)
        generalize wF s.runs 0 i = x0 at *
        generalize wF s.runs 1 j = x1 at *
        repeat' first | refine zK ?_ | refine zA ?_ | refine zL [] ?_ | (refine isA ?_; refine zf rfl ?_) | (refine isL ?_; refine zU rfl (by kernel_rfl) rfl rfl ?_) | (refine zb rfl ?_; refine zT rfl (by kernel_rfl) rfl rfl ?_) | (refine zu 71 ?_; refine zc rfl (zQ rfl c0 (.cons (.same rfl) (.cons (.same rfl) (.cons (.same rfl) .nil))) rfl) rfl ?_) | (refine zv 71 rfl ?_; refine zX rfl (by kernel_rfl) rfl (zQ rfl c0 (.cons (.same rfl) (.cons (.same rfl) (.cons (.same rfl) .nil))) rfl) rfl ?_) | (refine zu 71 ?_; refine zc rfl (zQ rfl c1 (.cons (.same rfl) (.cons (.same rfl) (.cons (.same rfl) .nil))) rfl) rfl ?_) | (refine zv 71 rfl ?_; refine zX rfl (by kernel_rfl) rfl (zQ rfl c1 (.cons (.same rfl) (.cons (.same rfl) (.cons (.same rfl) .nil))) rfl) rfl ?_) | (refine zu 90 (x := #[.tmp 28]) ?_; refine zc rfl (zQ rfl (vC x0 (by omega)) (.cons (.same rfl) .nil) rfl) rfl ?_) | (refine zv 90 (x := #[.tmp 28]) rfl ?_; refine zX rfl (by kernel_rfl) rfl (zQ rfl (vC x0 (by omega)) (.cons (.same rfl) .nil) rfl) rfl ?_) | (refine zu 90 (x := #[.tmp 34]) ?_; refine zc rfl (zQ rfl (vC x1 (by omega)) (.cons (.same rfl) .nil) rfl) rfl ?_) | (refine zv 90 (x := #[.tmp 34]) rfl ?_; refine zX rfl (by kernel_rfl) rfl (zQ rfl (vC x1 (by omega)) (.cons (.same rfl) .nil) rfl) rfl ?_) | exact yK rfl rfl (by rw [e', uX (by omega) (by omega)]) | refine zD ?_ | refine zB _ rfl (by kernel_rfl) ?_ | refine zV rfl ?_ | refine zW rfl ?_ | refine zC ?_ | with_reducible refine zO ?_ | refine zH ?_ | refine zI ?_ | (with_reducible first | refine zM ?_ | refine zN ?_ | refine zE ?_ | refine zG ?_ | refine zF ?_) | refine zP ?_
  have h2 := of_decide_eq_false h
  repeat' first | refine zK ?_ | refine zA ?_ | refine zL [] ?_ | (refine isA ?_; refine zf rfl ?_) | (refine isL ?_; refine zU rfl (by kernel_rfl) rfl rfl ?_) | (refine zb rfl ?_; refine zT rfl (by kernel_rfl) rfl rfl ?_) | refine zD ?_ | refine zB _ rfl (by kernel_rfl) ?_ | refine zV rfl ?_ | refine zW rfl ?_ | refine zC ?_ | with_reducible refine zO ?_ | refine zH ?_ | refine zI ?_ | (with_reducible first | refine zM ?_ | refine zN ?_ | refine zE ?_ | refine zG ?_ | refine zF ?_) | refine zP ?_
  refine zd rfl (fun h => ?_) (fun h => ?_)
  · have e := fh (of_decide_eq_true h)
    repeat' first | refine zK ?_ | refine zA ?_ | refine zL [] ?_ | (refine isA ?_; refine zf rfl ?_) | (refine isL ?_; refine zU rfl (by kernel_rfl) rfl rfl ?_) | (refine zb rfl ?_; refine zT rfl (by kernel_rfl) rfl rfl ?_) | refine zD ?_ | refine zB _ rfl (by kernel_rfl) ?_ | refine zV rfl ?_ | refine zW rfl ?_ | refine zC ?_ | with_reducible refine zO ?_ | refine zH ?_ | refine zI ?_ | (with_reducible first | refine zM ?_ | refine zN ?_ | refine zE ?_ | refine zG ?_ | refine zF ?_) | refine zP ?_
    refine zd rfl (fun q => ?_) (fun q => ?_)
    · have e' := l4 (rs := s.runs) (k := 0) (of_decide_eq_true q)
      repeat' first | refine zK ?_ | refine zA ?_ | refine zL [] ?_ | (refine isA ?_; refine zf rfl ?_) | (refine isL ?_; refine zU rfl (by kernel_rfl) rfl rfl ?_) | (refine zb rfl ?_; refine zT rfl (by kernel_rfl) rfl rfl ?_) | exact yK rfl rfl (by rw [e, e']) | refine zD ?_ | refine zB _ rfl (by kernel_rfl) ?_ | refine zV rfl ?_ | refine zW rfl ?_ | refine zC ?_ | with_reducible refine zO ?_ | refine zH ?_ | refine zI ?_ | (with_reducible first | refine zM ?_ | refine zN ?_ | refine zE ?_ | refine zG ?_ | refine zF ?_) | refine zP ?_
    · obtain ⟨i, hi⟩ := Int.eq_ofNat_of_zero_le (show 0 ≤ s.lp from Int.not_lt.1 (of_decide_eq_false q))
      have e' : yv s = y7 (wF s.runs 0 i) := by rw [e, hi]; rw [← pz]; try rfl
      have c0 := wA s.runs 0 i hok.rn (by omega)
      rw [← hi] at c0
      have b0 := qR s.runs 0 i
      generalize wF s.runs 0 i = x0 at *
      repeat' first | refine zK ?_ | refine zA ?_ | refine zL [] ?_ | (refine isA ?_; refine zf rfl ?_) | (refine isL ?_; refine zU rfl (by kernel_rfl) rfl rfl ?_) | (refine zb rfl ?_; refine zT rfl (by kernel_rfl) rfl rfl ?_) | (refine zu 71 ?_; refine zc rfl (zQ rfl c0 (.cons (.same rfl) (.cons (.same rfl) (.cons (.same rfl) .nil))) rfl) rfl ?_) | (refine zv 71 rfl ?_; refine zX rfl (by kernel_rfl) rfl (zQ rfl c0 (.cons (.same rfl) (.cons (.same rfl) (.cons (.same rfl) .nil))) rfl) rfl ?_) | (refine zu 90 ?_; refine zc rfl (zQ rfl (vC x0 (by omega)) (.cons (.same rfl) .nil) rfl) rfl ?_) | (refine zv 90 rfl ?_; refine zX rfl (by kernel_rfl) rfl (zQ rfl (vC x0 (by omega)) (.cons (.same rfl) .nil) rfl) rfl ?_) | exact yK rfl rfl (by rw [e']) | refine zD ?_ | refine zB _ rfl (by kernel_rfl) ?_ | refine zV rfl ?_ | refine zW rfl ?_ | refine zC ?_ | with_reducible refine zO ?_ | refine zH ?_ | refine zI ?_ | (with_reducible first | refine zM ?_ | refine zN ?_ | refine zE ?_ | refine zG ?_ | refine zF ?_) | refine zP ?_
  · have e := fj h1 h2 (of_decide_eq_false h)
    repeat' first | refine zK ?_ | refine zA ?_ | refine zL [] ?_ | (refine isA ?_; refine zf rfl ?_) | (refine isL ?_; refine zU rfl (by kernel_rfl) rfl rfl ?_) | (refine zb rfl ?_; refine zT rfl (by kernel_rfl) rfl rfl ?_) | exact yK rfl rfl (by rw [e]) | refine zD ?_ | refine zB _ rfl (by kernel_rfl) ?_ | refine zV rfl ?_ | refine zW rfl ?_ | refine zC ?_ | with_reducible refine zO ?_ | refine zH ?_ | refine zI ?_ | (with_reducible first | refine zM ?_ | refine zN ?_ | refine zE ?_ | refine zG ?_ | refine zF ?_) | refine zP ?_
theorem nI (rs : List Rn) (hok : tZ rs) (ht : tot rs ≤ 100000000) : zy Go.Proofs.Try.prog 80 [rnL rs] [] (.sl 0 0 rs.flatten.length) [rwR rs.flatten] false := by
  have hl := hok.1
  refine zw [2] Go.Proofs.Try.func80 rfl rfl ?_
  simp only [Go.Proofs.Try.ntmps80, List.length_cons, List.length_nil, Nat.reduceAdd, Nat.reduceSub, List.replicate_succ, List.replicate_zero, List.cons_append, List.nil_append]
  repeat' first | refine zK ?_ | refine zA ?_ | refine zL [] ?_ | (refine isA ?_; refine zf rfl ?_) | (refine isL ?_; refine zU rfl (by kernel_rfl) rfl rfl ?_) | (refine zb rfl ?_; refine zT rfl (by kernel_rfl) rfl rfl ?_) | refine zD ?_ | refine zB _ rfl (by kernel_rfl) ?_ | refine zV rfl ?_ | refine zW rfl ?_ | refine zC ?_ | with_reducible refine zO ?_ | refine zH ?_ | refine zI ?_ | (with_reducible first | refine zM ?_ | refine zN ?_ | refine zE ?_ | refine zG ?_ | refine zF ?_) | refine zP ?_
  refine z9 (α := { i : Nat // i ≤ rs.length }) (fun i => ⟨[.any, .any, .any, .sl 0 0 (rs.take i.1).flatten.length, .any, .any, .any, rnL rs, I rs.length, I i.1, .any, .any, .any, .any, .any, .any, .any, .any], [rwR (rs.take i.1).flatten], 0⟩) (fun i => rs.length - i.1) ⟨0, Nat.zero_le _⟩ ?_ ?_
  · exact w4 rfl (by repeat' first | exact EqS.nil | refine EqS.any ?_ | refine EqS.same rfl ?_)
  · rintro ⟨i, hi⟩
    repeat' first | refine zK ?_ | refine zA ?_ | refine zL [] ?_ | (refine isA ?_; refine zf rfl ?_) | (refine isL ?_; refine zU rfl (by kernel_rfl) rfl rfl ?_) | (refine zb rfl ?_; refine zT rfl (by kernel_rfl) rfl rfl ?_) | refine zD ?_ | refine zB _ rfl (by kernel_rfl) ?_ | refine zV rfl ?_ | refine zW rfl ?_ | refine zC ?_ | with_reducible refine zO ?_ | refine zH ?_ | refine zI ?_ | (with_reducible first | refine zM ?_ | refine zN ?_ | refine zE ?_ | refine zG ?_ | refine zF ?_) | refine zP ?_
    refine zd rfl (fun h => ?_) (fun h => ?_)
    · have hlt : i < rs.length := by simpa using h
      obtain ⟨z, hz⟩ : ∃ z, rs[i]? = some z := ⟨_, List.getElem?_eq_getElem hlt⟩
      have h1 := pq rs (i + 1)
      rw [to hz] at h1
      have h2 := vJ (rs.take i)
      repeat' first | refine zK ?_ | refine zA ?_ | refine zL [] ?_ | (refine isA ?_; refine zf rfl ?_) | (refine isL ?_; refine zU rfl (by kernel_rfl) rfl rfl ?_) | (refine zb rfl ?_; refine zT rfl (by kernel_rfl) rfl rfl ?_) | (refine yG ?_; refine zc rfl (z5 (t := rnT) (z := z) rfl rfl rfl rfl (Int.natCast_nonneg i) hz) rfl ?_) | (refine yF rfl ?_; refine zX rfl (by kernel_rfl) rfl (z5 (t := rnT) (z := z) rfl rfl rfl rfl (Int.natCast_nonneg i) hz) rfl ?_) | (refine xU ?_; refine zc rfl (yX (t := rwT) (xs := (rs.take i).flatten) (ys := z) rfl rfl rfl rfl (.lst _ _) (by omega) rfl) rfl ?_) | (refine y9 rfl ?_; refine zX rfl (by kernel_rfl) rfl (yX (t := rwT) (xs := (rs.take i).flatten) (ys := z) rfl rfl rfl rfl (.lst _ _) (by omega) rfl) rfl ?_) | refine zD ?_ | refine zB _ rfl (by kernel_rfl) ?_ | refine zV rfl ?_ | refine zW rfl ?_ | refine zC ?_ | with_reducible refine zO ?_ | refine zH ?_ | refine zI ?_ | (with_reducible first | refine zM ?_ | refine zN ?_ | refine zE ?_ | refine zG ?_ | refine zF ?_) | refine zP ?_
      refine ⟨⟨i + 1, hlt⟩, by simp only; omega, ?_⟩
      exact yb [1] rfl rfl (by decide) (.cons rfl rfl rfl rfl (yh (by rw [wk hz]) (zJ _ _)) .nil) (by
        repeat' first | exact zg | refine zZ ?_ ?_ | exact zo | exact le_refl rfl | exact zj rfl rfl | exact zj rfl (by rw [wk hz, List.length_append]) | exact xI (by assumption) (by omega))
    · have hge : i = rs.length := by
        have : ¬ ((i : Int) < rs.length) := by simpa using h
        omega
      subst hge
      repeat' first | refine zK ?_ | refine zA ?_ | refine zL [] ?_ | (refine isA ?_; refine zf rfl ?_) | (refine isL ?_; refine zU rfl (by kernel_rfl) rfl rfl ?_) | (refine zb rfl ?_; refine zT rfl (by kernel_rfl) rfl rfl ?_) | exact mz (ty := rwT) rfl rfl rfl rfl (by simp) (by simp) (xg _) | refine zD ?_ | refine zB _ rfl (by kernel_rfl) ?_ | refine zV rfl ?_ | refine zW rfl ?_ | refine zC ?_ | with_reducible refine zO ?_ | refine zH ?_ | refine zI ?_ | (with_reducible first | refine zM ?_ | refine zN ?_ | refine zE ?_ | refine zG ?_ | refine zF ?_) | refine zP ?_
end Go.Proofs.Ytojcojanokhnaaa.Ab
namespace Go.Proofs.Ytojcojanokhnaaa.Ab
open Go.RowKit
theorem qF (s : So) : vd s = (avR s.input && (inV s.pos 0 s.input.length && (avS s.runs && (!decide (s.wr < 0) && (vb s.out && s.heap.all fun r => !bel r s.out))))) := by
  unfold vd
  congr 4
  rw [Bool.eq_iff_iff]
  simp
theorem nP {s : So} (h : vd s = false) : vS s = false := by unfold vS; rw [h, Bool.false_and]
theorem fR {s : So} (h : vd s = true) (k : decide (s.ph = 1) = true) : vS s = tn s := by unfold vS; rw [h, Bool.true_and, k, cond_true]
theorem fQ {s : So} (h : vd s = true) (k : decide (s.ph = 1) = false) : vS s = (vE s && cond (decide (s.ph = 2)) (w3 s) (cond (decide (s.ph = 3)) (uC s) (cond (decide (s.ph = 4)) (uD s) false))) := by unfold vS; rw [h, Bool.true_and, k, cond_false]
theorem nu {s : So} {i : Nat} {z : Rw} (hz : s.heap[i]? = some z) (h : bel z s.out = true) : vd s = false := by
  have e : (s.heap.all fun r => !bel r s.out) = false := by
    rw [List.all_eq_false]
    exact ⟨z, List.mem_of_getElem? hz, by simp [h]⟩
  rw [qF, e]
  simp
theorem pP {s : So} (hb : (avR s.input && (inV s.pos 0 s.input.length && (avS s.runs && (!decide (s.wr < 0) && vb s.out)))) = true) (h : ∀ j z, j < s.heap.length → s.heap[j]? = some z → bel z s.out = false) : vd s = true := by
  have e : (s.heap.all fun r => !bel r s.out) = true := List.all_eq_true.2 fun z hz => by
    obtain ⟨j, hj⟩ := List.getElem?_of_mem hz
    simp [h j z (List.getElem?_eq_some_iff.1 hj).1 hj]
  rw [qF, e]
  simp only [Bool.and_eq_true] at hb ⊢
  obtain ⟨a, b, c, d, e⟩ := hb
  exact ⟨a, b, c, d, e, trivial⟩
theorem tB {xs out : List Rw} {i : Nat} {z : Rw} (hb : ∀ j z, j < i → xs[j]? = some z → bel z out = false) (hz : xs[i]? = some z) (h : bel z out = false) : ∀ j z, j < i + 1 → xs[j]? = some z → bel z out = false := fun j y hj hy => by
  rcases Nat.lt_or_ge j i with hlt | hge
  · exact hb j y hlt hy
  · obtain rfl : j = i := by omega
    rw [hz] at hy
    cases hy
    exact h
theorem nS (s : So) : tn s = (decide (s.lp = 0) && (decide (s.rp = 0) && ((decide ((0 : Int) < (s.out.length : Int)) || decide ((s.dfr.length : Int) = 0)) && (decide (yv s ≤ 60) && eqB (s.runs.flatten ++ s.out ++ s.heap ++ s.dfr) (s.input.take s.pos.toNat))))) := by
  unfold tn
  rw [show decide (0 < s.out.length) = decide ((0 : Int) < (s.out.length : Int)) from decide_eq_decide.2 (by omega), show decide (s.dfr.length = 0) = decide ((s.dfr.length : Int) = 0) from decide_eq_decide.2 (by omega)]
theorem gP (s : So) : vE s = (decide (s.pos = s.input.length) && (decide ((s.heap.length : Int) = 0) && (decide ((s.dfr.length : Int) = 0) && eqB s.runs.flatten s.input))) := by
  unfold vE
  rw [show decide (s.heap.length = 0) = decide ((s.heap.length : Int) = 0) from decide_eq_decide.2 (by omega), show decide (s.dfr.length = 0) = decide ((s.dfr.length : Int) = 0) from decide_eq_decide.2 (by omega)]
theorem nT (s : So) : vd s = (!(!avR s.input || (!inV s.pos 0 s.input.length || (!avS s.runs || (decide (s.wr < 0) || !vb s.out)))) && s.heap.all fun r => !bel r s.out) := by
  rw [qF]
  cases avR s.input <;> cases inV s.pos 0 s.input.length <;> cases avS s.runs <;> cases decide (s.wr < 0) <;> cases vb s.out <;> rfl
theorem nQ (s : So) : vE s = !(!decide (s.pos = s.input.length) || (decide ((0 : Int) < (s.heap.length : Int)) || (decide ((0 : Int) < (s.dfr.length : Int)) || !eqB s.runs.flatten s.input))) := by
  rw [gP, show decide ((s.heap.length : Int) = 0) = !decide ((0 : Int) < (s.heap.length : Int)) from by rw [← decide_not]; exact decide_eq_decide.2 (by omega), show decide ((s.dfr.length : Int) = 0) = !decide ((0 : Int) < (s.dfr.length : Int)) from by rw [← decide_not]; exact decide_eq_decide.2 (by omega)]
  cases decide (s.pos = s.input.length) <;> cases decide ((0 : Int) < (s.heap.length : Int)) <;> cases decide ((0 : Int) < (s.dfr.length : Int)) <;> cases eqB s.runs.flatten s.input <;> rfl
theorem gS (s : So) (h : s.input.length ≤ 1000000000) : uC s = (decide ((s.runs.length : Int) = 1) && (inV s.lp 0 (IntKind.i64.wrap ((s.input.length : Int) - 1)) && (decide (s.rp = 0) && decide ((s.out.length : Int) = 0)))) := by
  unfold uC
  rw [show IntKind.i64.wrap ((s.input.length : Int) - 1) = (s.input.length : Int) - 1 by rw [IntKind.wrap_i64]; omega, show decide (s.runs.length = 1) = decide ((s.runs.length : Int) = 1) from decide_eq_decide.2 (by omega), show decide (s.out.length = 0) = decide ((s.out.length : Int) = 0) from decide_eq_decide.2 (by omega)]
theorem gT (s : So) : uD s = (decide ((s.runs.length : Int) ≤ 1) && (decide (s.lp = s.input.length) && (decide (s.rp = 0) && decide ((s.out.length : Int) = 0)))) := by
  unfold uD
  rw [show decide (s.runs.length ≤ 1) = decide ((s.runs.length : Int) ≤ 1) from decide_eq_decide.2 (by omega), show decide (s.out.length = 0) = decide ((s.out.length : Int) = 0) from decide_eq_decide.2 (by omega)]
theorem qo {s : So} (h : decide ((s.runs.length : Int) < 2) = true) : w3 s = false := by
  have := of_decide_eq_true h
  unfold w3
  match hr : s.runs with
  | [] => rfl
  | [x] => rfl
  | x :: y :: rest => rw [hr] at this; simp at this; omega
theorem qq {rs : List Rn} (h : decide ((rs.length : Int) < 2) = false) : ∃ a b rest, rs = a :: b :: rest := by
  have := of_decide_eq_false h
  match rs with
  | [] => simp at this
  | [x] => simp at this
  | x :: y :: rest => exact ⟨x, y, rest, rfl⟩
theorem qp {s : So} {a b : Rn} {rest : List Rn} (hr : s.runs = a :: b :: rest) : w3 s = (!(!inV s.lp 0 a.length || !inV s.rp 0 b.length) && (xO s.out (mgV (a.take s.lp.toNat) (b.take s.rp.toNat)) && xO s.out ((mgV a b).take (s.lp.toNat + s.rp.toNat)))) := by
  unfold w3
  rw [hr, Bool.eq_iff_iff]
  simp only [Bool.and_eq_true, Bool.not_eq_true', Bool.or_eq_false_iff, Bool.not_eq_false', and_assoc]
theorem tog4 (s : So) : [s.runs.flatten, s.out, s.heap, s.dfr].flatten = s.runs.flatten ++ s.out ++ s.heap ++ s.dfr := by simp
theorem js (s : So) (hok : okSo s) : zy Go.Proofs.Try.prog 17 [.agg (soE s)] [] (B (vS s)) [] false := by
  have g1 := hok.input
  have g2 := hok.heap
  have g3 := hok.dfr
  have g4 := hok.out
  have g5 := hok.rn
  have g6 := hok.tot
  have g7 := vJ s.runs
  have a1 := j9 s.input (by omega)
  have a2 := dA s.runs g5
  have a3 := j7 s.out (by omega)
  have a4 := tK s hok
  have a5 := (g8 s.runs g5 (by omega)).frozen (zq rfl)
  have a6 := j8 s.runs.flatten s.input (by omega) (by omega)
  refine zw [2] Go.Proofs.Try.func17 rfl rfl ?_
  simp only [Go.Proofs.Try.ntmps17, List.length_cons, List.length_nil, Nat.reduceAdd, Nat.reduceSub, List.replicate_succ, List.replicate_zero, List.cons_append, List.nil_append]
  repeat' first | refine zK ?_ | refine zA ?_ | refine zL [] ?_ | (refine isA ?_; refine zf rfl ?_) | (refine isL ?_; refine zU rfl (by kernel_rfl) rfl rfl ?_) | (refine zb rfl ?_; refine zT rfl (by kernel_rfl) rfl rfl ?_) | (refine zu 74 ?_; refine zc rfl (zQ rfl a1 (.cons (.same rfl) .nil) rfl) rfl ?_) | (refine zv 74 rfl ?_; refine zX rfl (by kernel_rfl) rfl (zQ rfl a1 (.cons (.same rfl) .nil) rfl) rfl ?_) | (refine zu 75 ?_; refine zc rfl (zQ rfl (xe _ _ _) (.cons (.same rfl) (.cons (.same rfl) (.cons (.same rfl) .nil))) rfl) rfl ?_) | (refine zv 75 rfl ?_; refine zX rfl (by kernel_rfl) rfl (zQ rfl (xe _ _ _) (.cons (.same rfl) (.cons (.same rfl) (.cons (.same rfl) .nil))) rfl) rfl ?_) | (refine zu 76 ?_; refine zc rfl (zQ rfl a2 (.cons (.same rfl) .nil) rfl) rfl ?_) | (refine zv 76 rfl ?_; refine zX rfl (by kernel_rfl) rfl (zQ rfl a2 (.cons (.same rfl) .nil) rfl) rfl ?_) | (refine zu 77 ?_; refine zc rfl (zQ rfl a3 (.cons (.same rfl) .nil) rfl) rfl ?_) | (refine zv 77 rfl ?_; refine zX rfl (by kernel_rfl) rfl (zQ rfl a3 (.cons (.same rfl) .nil) rfl) rfl ?_) | refine zD ?_ | refine zB _ rfl (by kernel_rfl) ?_ | refine zV rfl ?_ | refine zW rfl ?_ | refine zC ?_ | with_reducible refine zO ?_ | refine zH ?_ | refine zI ?_ | (with_reducible first | refine zM ?_ | refine zN ?_ | refine zE ?_ | refine zG ?_ | refine zF ?_) | refine zP ?_ | refine zd rfl (fun hbr => ?_) (fun hbr => ?_) | (refine wB ?_; refine yW rfl rfl (fun hbr => ?_) (fun hbr => ?_) <;> (fail_if_success (with_reducible (have hx : true = true := hbr))) <;> (fail_if_success (with_reducible (have hx : false = false := hbr)))) | (refine zb rfl ?_; refine yI rfl rfl rfl rfl (fun hbr => ?_) (fun hbr => ?_) <;> (fail_if_success (with_reducible (have hx : true = true := hbr))) <;> (fail_if_success (with_reducible (have hx : false = false := hbr))))
  all_goals first
    | exact yK rfl rfl (congrArg B (nP (by rw [nT]; simp only [*, Bool.true_or, Bool.false_or, Bool.or_true, Bool.or_false, Bool.true_and, Bool.false_and, Bool.and_true, Bool.and_false, Bool.not_true, Bool.not_false, cond_true, cond_false])).symm)
    | skip
  have hq : (avR s.input && (inV s.pos 0 s.input.length && (avS s.runs && (!decide (s.wr < 0) && vb s.out)))) = true := by
    simp only [Bool.not_eq_false'] at *
    simp only [*, Bool.true_and, Bool.not_false]
  refine z9 (α := { i : Nat // i ≤ s.heap.length ∧ ∀ j z, j < i → s.heap[j]? = some z → bel z s.out = false }) (fun i => ⟨(.any :: .any :: .any :: (.ptr 1 0) :: .any :: .any :: .any :: .any :: .any :: .any :: .any :: .any :: .any :: .any :: .any :: .any :: .any :: .any :: .any :: .any :: .any :: .any :: .any :: .any :: .any :: .any :: .any :: .any :: .any :: .any :: .any :: .any :: .any :: .any :: .any :: .any :: .any :: .any :: .any :: .any :: .any :: (rwL s.heap) :: (I s.heap.length) :: (I i.1) :: .any :: .any :: .any :: .any :: .any :: .any :: .any :: .any :: .any :: .any :: .any :: .any :: .any :: .any :: .any :: .any :: .any :: .any :: .any :: .any :: .any :: .any :: .any :: .any :: .any :: .any :: .any :: .any :: .any :: .any :: .any :: .any :: .any :: .any :: .any :: .any :: .any :: .any :: .any :: .any :: .any :: .any :: .any :: .any :: .any :: .any :: .any :: .any :: .any :: .any :: .any :: .any :: .any :: .any :: .any :: .any :: .any :: .any :: .any :: .any :: .any :: .any :: .any :: .any :: .any :: .any :: .any :: .any :: .any :: .any :: .any :: .any :: .any :: .any :: .any :: .any :: .any :: .any :: .any :: .any :: .any :: .any :: .any :: .any :: .any :: .any :: .any :: .any :: .any :: .any :: .any :: .any :: .any :: .any :: .any :: .any :: .any :: .any :: .any :: .any :: .any :: .any :: .any :: .any :: .any :: .any :: .any :: .any :: .any :: .any :: .any :: .any :: .any :: .any :: .any :: .any :: .any :: .any :: .any :: .any :: .any :: .any :: .any :: .any :: .any :: .any :: .any :: .any :: .any :: .any :: .any :: .any :: .any :: .any :: .any :: .any :: .any :: .any :: .any :: .any :: .any :: .any :: .any :: .any :: .any :: .any :: .any :: .any :: .any :: .any :: .any :: .any :: .any :: .any :: .any :: .any :: .any :: .any :: .any :: .any :: .any :: .any :: .any :: .any :: .any :: .any :: .any :: .any :: .any :: .any :: .any :: .any :: .any :: .any :: .any :: .any :: .any :: .any :: .any :: .any :: .any :: .any :: .any :: .any :: .any :: .any :: .any :: .any :: .any :: .any :: []), [⟨27, 10, soE s, 0⟩, ⟨27, 10, soE s, 0⟩], 0⟩) (fun i => s.heap.length - i.1) ⟨0, Nat.zero_le _, fun j z h => absurd h (Nat.not_lt_zero j)⟩ ?_ ?_
  · exact yb [0, 1] rfl rfl (by decide) (by repeat' first | exact HLes.nil | refine HLes.cons rfl rfl rfl rfl ?_ ?_ | exact zg | refine zZ ?_ ?_ | exact zo | exact le_refl rfl | exact zj rfl rfl | exact zt rfl) (by repeat' first | exact zg | refine zZ ?_ ?_ | exact zo | exact le_refl rfl | exact zj rfl rfl | exact zt rfl)
  · rintro ⟨i, hi, hb⟩
    repeat' first | refine zK ?_ | refine zA ?_ | refine zL [] ?_ | (refine isA ?_; refine zf rfl ?_) | (refine isL ?_; refine zU rfl (by kernel_rfl) rfl rfl ?_) | (refine zb rfl ?_; refine zT rfl (by kernel_rfl) rfl rfl ?_) | refine zD ?_ | refine zB _ rfl (by kernel_rfl) ?_ | refine zV rfl ?_ | refine zW rfl ?_ | refine zC ?_ | with_reducible refine zO ?_ | refine zH ?_ | refine zI ?_ | (with_reducible first | refine zM ?_ | refine zN ?_ | refine zE ?_ | refine zG ?_ | refine zF ?_) | refine zP ?_
    refine zd rfl (fun h => ?_) (fun h => ?_)
    · have hlt : i < s.heap.length := by simpa using h
      obtain ⟨z, hz⟩ : ∃ z, s.heap[i]? = some z := ⟨_, List.getElem?_eq_getElem hlt⟩
      repeat' first | refine zK ?_ | refine zA ?_ | refine zL [] ?_ | (refine isA ?_; refine zf rfl ?_) | (refine isL ?_; refine zU rfl (by kernel_rfl) rfl rfl ?_) | (refine zb rfl ?_; refine zT rfl (by kernel_rfl) rfl rfl ?_) | (refine yG ?_; refine zc rfl (z5 (t := rwT) (z := z) rfl rfl rfl rfl (Int.natCast_nonneg i) hz) rfl ?_) | (refine yF rfl ?_; refine zX rfl (by kernel_rfl) rfl (z5 (t := rwT) (z := z) rfl rfl rfl rfl (Int.natCast_nonneg i) hz) rfl ?_) | (refine zu 59 ?_; refine zc rfl (zQ rfl (qj z s.out (by omega)) (.cons (.same rfl) (.cons (.same rfl) .nil)) rfl) rfl ?_) | (refine zv 59 rfl ?_; refine zX rfl (by kernel_rfl) rfl (zQ rfl (qj z s.out (by omega)) (.cons (.same rfl) (.cons (.same rfl) .nil)) rfl) rfl ?_) | refine zD ?_ | refine zB _ rfl (by kernel_rfl) ?_ | refine zV rfl ?_ | refine zW rfl ?_ | refine zC ?_ | with_reducible refine zO ?_ | refine zH ?_ | refine zI ?_ | (with_reducible first | refine zM ?_ | refine zN ?_ | refine zE ?_ | refine zG ?_ | refine zF ?_) | refine zP ?_
      refine zd rfl (fun p => ?_) (fun p => ?_)
      · repeat' first | refine zK ?_ | refine zA ?_ | refine zL [] ?_ | (refine isA ?_; refine zf rfl ?_) | (refine isL ?_; refine zU rfl (by kernel_rfl) rfl rfl ?_) | (refine zb rfl ?_; refine zT rfl (by kernel_rfl) rfl rfl ?_) | exact yK rfl rfl (congrArg B (nP (nu hz p)).symm) | refine zD ?_ | refine zB _ rfl (by kernel_rfl) ?_ | refine zV rfl ?_ | refine zW rfl ?_ | refine zC ?_ | with_reducible refine zO ?_ | refine zH ?_ | refine zI ?_ | (with_reducible first | refine zM ?_ | refine zN ?_ | refine zE ?_ | refine zG ?_ | refine zF ?_) | refine zP ?_
      · repeat' first | refine zK ?_ | refine zA ?_ | refine zL [] ?_ | (refine isA ?_; refine zf rfl ?_) | (refine isL ?_; refine zU rfl (by kernel_rfl) rfl rfl ?_) | (refine zb rfl ?_; refine zT rfl (by kernel_rfl) rfl rfl ?_) | refine zD ?_ | refine zB _ rfl (by kernel_rfl) ?_ | refine zV rfl ?_ | refine zW rfl ?_ | refine zC ?_ | with_reducible refine zO ?_ | refine zH ?_ | refine zI ?_ | (with_reducible first | refine zM ?_ | refine zN ?_ | refine zE ?_ | refine zG ?_ | refine zF ?_) | refine zP ?_
        refine ⟨⟨i + 1, hlt, tB hb hz p⟩, by simp only; omega, ?_⟩
        exact yb [0, 1] rfl rfl (by decide) (by repeat' first | exact HLes.nil | refine HLes.cons rfl rfl rfl rfl ?_ ?_ | exact zg | refine zZ ?_ ?_ | exact zo | exact le_refl rfl | exact zj rfl rfl | exact zt rfl) (by repeat' first | exact zg | refine zZ ?_ ?_ | exact zo | exact le_refl rfl | exact zj rfl rfl | exact zt rfl | exact xI (by assumption) (by omega))
    · have hge : i = s.heap.length := by
        have : ¬ ((i : Int) < s.heap.length) := by simpa using h
        omega
      subst hge
      have hB := pP hq hb
      have e1 := fR hB
      have e2 := fQ hB
      simp only [Bool.and_eq_true, xC] at hq
      obtain ⟨hv0, ⟨hp0, hp1⟩, hv1, hv2, hv3⟩ := hq
      repeat' first | refine zK ?_ | refine zA ?_ | refine zL [] ?_ | (refine isA ?_; refine zf rfl ?_) | (refine isL ?_; refine zU rfl (by kernel_rfl) rfl rfl ?_) | (refine zb rfl ?_; refine zT rfl (by kernel_rfl) rfl rfl ?_) | (refine zu 78 ?_; refine zc rfl (zQ rfl a5 (.cons (.same rfl) .nil) rfl) rfl ?_) | (refine zv 78 rfl ?_; refine zX rfl (by kernel_rfl) rfl (zQ rfl a5 (.cons (.same rfl) .nil) rfl) rfl ?_) | refine zD ?_ | refine zB _ rfl (by kernel_rfl) ?_ | refine zV rfl ?_ | refine zW rfl ?_ | refine zC ?_ | with_reducible refine zO ?_ | refine zH ?_ | refine zI ?_ | (with_reducible first | refine zM ?_ | refine zN ?_ | refine zE ?_ | refine zG ?_ | refine zF ?_) | refine zP ?_
      refine zd rfl (fun h => ?_) (fun h => ?_)
      · have e1 := e1 h
        rw [nS] at e1
        have hp : s.pos = ((s.pos.toNat : Nat) : Int) := by omega
        have t4 := tog4 s
        have a7 := (nI [s.runs.flatten, s.out, s.heap, s.dfr] ⟨by simp, fun x hx => by simp at hx; rcases hx with rfl | rfl | rfl | rfl <;> omega⟩ (by show ([s.runs.flatten, s.out, s.heap, s.dfr].map List.length).sum ≤ _; simp only [List.map_cons, List.map_nil, List.sum_cons, List.sum_nil]; omega)).frozen (zq rfl)
        rw [t4] at a7
        have a8 := j8 (s.runs.flatten ++ s.out ++ s.heap ++ s.dfr) (s.input.take s.pos.toNat) (by rw [List.length_append, List.length_append, List.length_append]; omega) (by simp; omega)
        repeat' first | refine zK ?_ | refine zA ?_ | refine zL [] ?_ | (refine isA ?_; refine zf rfl ?_) | (refine isL ?_; refine zU rfl (by kernel_rfl) rfl rfl ?_) | (refine zb rfl ?_; refine zT rfl (by kernel_rfl) rfl rfl ?_) | refine zc rfl (yN rfl rfl rfl rfl rfl) rfl ?_ | refine zX rfl (by kernel_rfl) rfl (yN rfl rfl rfl rfl rfl) rfl ?_ | (refine zu 19 ?_; refine zc rfl (zQ rfl a4 (.cons (.same rfl) .nil) rfl) rfl ?_) | (refine zv 19 rfl ?_; refine zX rfl (by kernel_rfl) rfl (zQ rfl a4 (.cons (.same rfl) .nil) rfl) rfl ?_) | (refine zu 80 ?_; refine zc rfl (zQ rfl a7 (.cons (.same rfl) .nil) rfl) rfl ?_) | (refine zv 80 rfl ?_; refine zX rfl (by kernel_rfl) rfl (zQ rfl a7 (.cons (.same rfl) .nil) rfl) rfl ?_) | (refine zu 79 ?_; refine zc rfl (zQ rfl a8 (.cons (.same rfl) (.cons (.same rfl) .nil)) rfl) rfl ?_) | (refine zv 79 rfl ?_; refine zX rfl (by kernel_rfl) rfl (zQ rfl a8 (.cons (.same rfl) (.cons (.same rfl) .nil)) rfl) rfl ?_) | (refine uA (x := .tmp 94) ?_; refine zc rfl (yg rfl rfl (congrArg I hp) (by omega)) rfl ?_) | (refine v9 (x := .tmp 94) rfl ?_; refine zX rfl (by kernel_rfl) rfl (yg rfl rfl (congrArg I hp) (by omega)) rfl ?_) | refine zD ?_ | refine zB _ rfl (by kernel_rfl) ?_ | refine zV rfl ?_ | refine zW rfl ?_ | refine zC ?_ | with_reducible refine zO ?_ | refine zH ?_ | refine zI ?_ | (with_reducible first | refine zM ?_ | refine zN ?_ | refine zE ?_ | refine zG ?_ | refine zF ?_) | refine zP ?_ | refine zd rfl (fun hbr => ?_) (fun hbr => ?_) | (refine wB ?_; refine yW rfl rfl (fun hbr => ?_) (fun hbr => ?_) <;> (fail_if_success (with_reducible (have hx : true = true := hbr))) <;> (fail_if_success (with_reducible (have hx : false = false := hbr)))) | (refine zb rfl ?_; refine yI rfl rfl rfl rfl (fun hbr => ?_) (fun hbr => ?_) <;> (fail_if_success (with_reducible (have hx : true = true := hbr))) <;> (fail_if_success (with_reducible (have hx : false = false := hbr))))
        all_goals exact yK rfl rfl (congrArg B (by rw [e1]; clear e1 e2 hp; simp only [*, Bool.true_or, Bool.false_or, Bool.or_true, Bool.or_false, Bool.true_and, Bool.false_and, Bool.and_true, Bool.and_false, Bool.not_true, Bool.not_false, cond_true, cond_false]))
      · have e2 := e2 h
        rw [nQ] at e2
        repeat' first | refine zK ?_ | refine zA ?_ | refine zL [] ?_ | (refine isA ?_; refine zf rfl ?_) | (refine isL ?_; refine zU rfl (by kernel_rfl) rfl rfl ?_) | (refine zb rfl ?_; refine zT rfl (by kernel_rfl) rfl rfl ?_) | (refine zu 79 ?_; refine zc rfl (zQ rfl a6 (.cons (.same rfl) (.cons (.same rfl) .nil)) rfl) rfl ?_) | (refine zv 79 rfl ?_; refine zX rfl (by kernel_rfl) rfl (zQ rfl a6 (.cons (.same rfl) (.cons (.same rfl) .nil)) rfl) rfl ?_) | refine zD ?_ | refine zB _ rfl (by kernel_rfl) ?_ | refine zV rfl ?_ | refine zW rfl ?_ | refine zC ?_ | with_reducible refine zO ?_ | refine zH ?_ | refine zI ?_ | (with_reducible first | refine zM ?_ | refine zN ?_ | refine zE ?_ | refine zG ?_ | refine zF ?_) | refine zP ?_ | (refine wB ?_; refine yW rfl rfl (fun hbr => ?_) (fun hbr => ?_) <;> (fail_if_success (with_reducible (have hx : true = true := hbr))) <;> (fail_if_success (with_reducible (have hx : false = false := hbr)))) | (refine zb rfl ?_; refine yI rfl rfl rfl rfl (fun hbr => ?_) (fun hbr => ?_) <;> (fail_if_success (with_reducible (have hx : true = true := hbr))) <;> (fail_if_success (with_reducible (have hx : false = false := hbr))))
        all_goals first
          | exact yK rfl rfl (congrArg B (by rw [e2]; clear e1 e2; simp only [*, Bool.true_or, Bool.false_or, Bool.or_true, Bool.or_false, Bool.true_and, Bool.false_and, Bool.and_true, Bool.and_false, Bool.not_true, Bool.not_false, cond_true, cond_false]))
          | skip
        refine zd rfl (fun q => ?_) (fun q => ?_)
        · repeat' first | refine zK ?_ | refine zA ?_ | refine zL [] ?_ | (refine isA ?_; refine zf rfl ?_) | (refine isL ?_; refine zU rfl (by kernel_rfl) rfl rfl ?_) | (refine zb rfl ?_; refine zT rfl (by kernel_rfl) rfl rfl ?_) | exact yK rfl rfl (congrArg B (by rw [e2]; clear e1 e2; simp only [*, Bool.true_or, Bool.false_or, Bool.or_true, Bool.or_false, Bool.true_and, Bool.false_and, Bool.and_true, Bool.and_false, Bool.not_true, Bool.not_false, cond_true, cond_false])) | refine zD ?_ | refine zB _ rfl (by kernel_rfl) ?_ | refine zV rfl ?_ | refine zW rfl ?_ | refine zC ?_ | with_reducible refine zO ?_ | refine zH ?_ | refine zI ?_ | (with_reducible first | refine zM ?_ | refine zN ?_ | refine zE ?_ | refine zG ?_ | refine zF ?_) | refine zP ?_
        have e3 : vS s = cond (decide (s.ph = 2)) (w3 s) (cond (decide (s.ph = 3)) (uC s) (cond (decide (s.ph = 4)) (uD s) false)) := by
          rw [e2]
          clear e1 e2
          simp only [*, Bool.true_or, Bool.false_or, Bool.or_true, Bool.or_false, Bool.true_and, Bool.false_and, Bool.and_true, Bool.and_false, Bool.not_true, Bool.not_false, cond_true, cond_false]
        clear e1 e2
        repeat' first | refine zK ?_ | refine zA ?_ | refine zL [] ?_ | (refine isA ?_; refine zf rfl ?_) | (refine isL ?_; refine zU rfl (by kernel_rfl) rfl rfl ?_) | (refine zb rfl ?_; refine zT rfl (by kernel_rfl) rfl rfl ?_) | refine zD ?_ | refine zB _ rfl (by kernel_rfl) ?_ | refine zV rfl ?_ | refine zW rfl ?_ | refine zC ?_ | with_reducible refine zO ?_ | refine zH ?_ | refine zI ?_ | (with_reducible first | refine zM ?_ | refine zN ?_ | refine zE ?_ | refine zG ?_ | refine zF ?_) | refine zP ?_
        refine zd rfl (fun h2 => ?_) (fun h2 => ?_)
        · rw [h2, cond_true] at e3
          repeat' first | refine zK ?_ | refine zA ?_ | refine zL [] ?_ | (refine isA ?_; refine zf rfl ?_) | (refine isL ?_; refine zU rfl (by kernel_rfl) rfl rfl ?_) | (refine zb rfl ?_; refine zT rfl (by kernel_rfl) rfl rfl ?_) | refine zD ?_ | refine zB _ rfl (by kernel_rfl) ?_ | refine zV rfl ?_ | refine zW rfl ?_ | refine zC ?_ | with_reducible refine zO ?_ | refine zH ?_ | refine zI ?_ | (with_reducible first | refine zM ?_ | refine zN ?_ | refine zE ?_ | refine zG ?_ | refine zF ?_) | refine zP ?_
          refine zd rfl (fun h3 => ?_) (fun h3 => ?_)
          · repeat' first | refine zK ?_ | refine zA ?_ | refine zL [] ?_ | (refine isA ?_; refine zf rfl ?_) | (refine isL ?_; refine zU rfl (by kernel_rfl) rfl rfl ?_) | (refine zb rfl ?_; refine zT rfl (by kernel_rfl) rfl rfl ?_) | exact yK rfl rfl (congrArg B (by rw [e3, qo h3])) | refine zD ?_ | refine zB _ rfl (by kernel_rfl) ?_ | refine zV rfl ?_ | refine zW rfl ?_ | refine zC ?_ | with_reducible refine zO ?_ | refine zH ?_ | refine zI ?_ | (with_reducible first | refine zM ?_ | refine zN ?_ | refine zE ?_ | refine zG ?_ | refine zF ?_) | refine zP ?_
          · obtain ⟨a, b, rest, hr⟩ := qq h3
            rw [qp hr] at e3
            have ra : s.runs[0]? = some a := by rw [hr]; rfl
            have rb : s.runs[1]? = some b := by rw [hr]; rfl
            have la := g5.at ra
            have lb := g5.at rb
            have lab : a.length + b.length ≤ 10000000 := by rw [hr] at g6; simp only [tot, List.map_cons, List.sum_cons] at g6; omega
            repeat' first | refine zK ?_ | refine zA ?_ | refine zL [] ?_ | (refine isA ?_; refine zf rfl ?_) | (refine isL ?_; refine zU rfl (by kernel_rfl) rfl rfl ?_) | (refine zb rfl ?_; refine zT rfl (by kernel_rfl) rfl rfl ?_) | (refine zu 75 ?_; refine zc rfl (zQ rfl (xe _ _ _) (.cons (.same rfl) (.cons (.same rfl) (.cons (.same rfl) .nil))) rfl) rfl ?_) | (refine zv 75 rfl ?_; refine zX rfl (by kernel_rfl) rfl (zQ rfl (xe _ _ _) (.cons (.same rfl) (.cons (.same rfl) (.cons (.same rfl) .nil))) rfl) rfl ?_) | (refine yG (x := .tmp 134) ?_; refine zc rfl (z5 (t := rnT) (z := a) rfl rfl rfl rfl (Int.natCast_nonneg 0) ra) rfl ?_) | (refine yF (x := .tmp 134) rfl ?_; refine zX rfl (by kernel_rfl) rfl (z5 (t := rnT) (z := a) rfl rfl rfl rfl (Int.natCast_nonneg 0) ra) rfl ?_) | (refine yG (x := .tmp 139) ?_; refine zc rfl (z5 (t := rnT) (z := b) rfl rfl rfl rfl (Int.natCast_nonneg 1) rb) rfl ?_) | (refine yF (x := .tmp 139) rfl ?_; refine zX rfl (by kernel_rfl) rfl (z5 (t := rnT) (z := b) rfl rfl rfl rfl (Int.natCast_nonneg 1) rb) rfl ?_) | refine zD ?_ | refine zB _ rfl (by kernel_rfl) ?_ | refine zV rfl ?_ | refine zW rfl ?_ | refine zC ?_ | with_reducible refine zO ?_ | refine zH ?_ | refine zI ?_ | (with_reducible first | refine zM ?_ | refine zN ?_ | refine zE ?_ | refine zG ?_ | refine zF ?_) | refine zP ?_ | (refine wB ?_; refine yW rfl rfl (fun hbr => ?_) (fun hbr => ?_) <;> (fail_if_success (with_reducible (have hx : true = true := hbr))) <;> (fail_if_success (with_reducible (have hx : false = false := hbr)))) | (refine zb rfl ?_; refine yI rfl rfl rfl rfl (fun hbr => ?_) (fun hbr => ?_) <;> (fail_if_success (with_reducible (have hx : true = true := hbr))) <;> (fail_if_success (with_reducible (have hx : false = false := hbr))))
            all_goals first
              | exact yK rfl rfl (congrArg B (by rw [e3]; simp only [*, Bool.true_or, Bool.false_or, Bool.or_true, Bool.or_false, Bool.true_and, Bool.false_and, Bool.and_true, Bool.and_false, Bool.not_true, Bool.not_false, cond_true, cond_false]))
              | skip
            refine zd rfl (fun p => ?_) (fun p => ?_)
            · repeat' first | refine zK ?_ | refine zA ?_ | refine zL [] ?_ | (refine isA ?_; refine zf rfl ?_) | (refine isL ?_; refine zU rfl (by kernel_rfl) rfl rfl ?_) | (refine zb rfl ?_; refine zT rfl (by kernel_rfl) rfl rfl ?_) | exact yK rfl rfl (congrArg B (by rw [e3]; simp only [*, Bool.true_or, Bool.false_or, Bool.or_true, Bool.or_false, Bool.true_and, Bool.false_and, Bool.and_true, Bool.and_false, Bool.not_true, Bool.not_false, cond_true, cond_false])) | refine zD ?_ | refine zB _ rfl (by kernel_rfl) ?_ | refine zV rfl ?_ | refine zW rfl ?_ | refine zC ?_ | with_reducible refine zO ?_ | refine zH ?_ | refine zI ?_ | (with_reducible first | refine zM ?_ | refine zN ?_ | refine zE ?_ | refine zG ?_ | refine zF ?_) | refine zP ?_
            have p1 : (!inV s.lp 0 a.length) = false := by assumption
            have p1 : inV s.lp 0 a.length = true := by simpa using p1
            have p2 : inV s.rp 0 b.length = true := by simpa using p
            rw [p1, p2] at e3
            simp only [Bool.true_or, Bool.false_or, Bool.or_true, Bool.or_false, Bool.true_and, Bool.false_and, Bool.and_true, Bool.and_false, Bool.not_true, Bool.not_false, cond_true, cond_false] at e3
            obtain ⟨q1, q2⟩ := xC.1 p1
            obtain ⟨q3, q4⟩ := xC.1 p2
            obtain ⟨i, hi⟩ := Int.eq_ofNat_of_zero_le q1
            obtain ⟨j, hj⟩ := Int.eq_ofNat_of_zero_le q3
            have ei : s.lp.toNat = i := by omega
            have ej : s.rp.toNat = j := by omega
            rw [ei, ej] at e3
            have w1 : IntKind.i64.wrap (s.lp + s.rp) = ((i + j : Nat) : Int) := by rw [hi, hj, IntKind.wrap_i64]; omega
            have li : (a.take i).length ≤ 100000000 := by simp; omega
            have lj : (b.take j).length ≤ 100000000 := by simp; omega
            have m1 := (fx (a.take i) (b.take j) li lj).frozen (zq rfl)
            have m2 := (fx a b (by omega) (by omega)).frozen (zq rfl)
            have n2 := u7 a b
            have x1 := sV s.out (mgV (a.take i) (b.take j)) (by omega)
            have x2 := sV s.out ((mgV a b).take (i + j)) (by omega)
            generalize mgV (a.take i) (b.take j) = M1 at m1 x1 e3
            generalize mgV a b = M2 at m2 x2 e3 n2
            repeat' first | refine zK ?_ | refine zA ?_ | refine zL [] ?_ | (refine isA ?_; refine zf rfl ?_) | (refine isL ?_; refine zU rfl (by kernel_rfl) rfl rfl ?_) | (refine zb rfl ?_; refine zT rfl (by kernel_rfl) rfl rfl ?_) | (refine uA (x := .tmp 159) ?_; refine zc rfl (yg rfl rfl (congrArg I hi) (by omega)) rfl ?_) | (refine v9 (x := .tmp 159) rfl ?_; refine zX rfl (by kernel_rfl) rfl (yg rfl rfl (congrArg I hi) (by omega)) rfl ?_) | (refine uA (x := .tmp 163) ?_; refine zc rfl (yg rfl rfl (congrArg I hj) (by omega)) rfl ?_) | (refine v9 (x := .tmp 163) rfl ?_; refine zX rfl (by kernel_rfl) rfl (yg rfl rfl (congrArg I hj) (by omega)) rfl ?_) | (refine uA (x := .tmp 174) ?_; refine zc rfl (yg rfl rfl (congrArg I w1) (by omega)) rfl ?_) | (refine v9 (x := .tmp 174) rfl ?_; refine zX rfl (by kernel_rfl) rfl (yg rfl rfl (congrArg I w1) (by omega)) rfl ?_) | (refine zu 82 (x := #[.tmp 162, .tmp 166]) ?_; refine zc rfl (zQ rfl m1 (.cons (.same rfl) (.cons (.same rfl) .nil)) rfl) rfl ?_) | (refine zv 82 (x := #[.tmp 162, .tmp 166]) rfl ?_; refine zX rfl (by kernel_rfl) rfl (zQ rfl m1 (.cons (.same rfl) (.cons (.same rfl) .nil)) rfl) rfl ?_) | (refine zu 82 (x := #[.tmp 172, .tmp 173]) ?_; refine zc rfl (zQ rfl m2 (.cons (.same rfl) (.cons (.same rfl) .nil)) rfl) rfl ?_) | (refine zv 82 (x := #[.tmp 172, .tmp 173]) rfl ?_; refine zX rfl (by kernel_rfl) rfl (zQ rfl m2 (.cons (.same rfl) (.cons (.same rfl) .nil)) rfl) rfl ?_) | (refine zu 81 (x := #[.tmp 158, .tmp 167]) ?_; refine zc rfl (zQ rfl x1 (.cons (.same rfl) (.cons (.same rfl) .nil)) rfl) rfl ?_) | (refine zv 81 (x := #[.tmp 158, .tmp 167]) rfl ?_; refine zX rfl (by kernel_rfl) rfl (zQ rfl x1 (.cons (.same rfl) (.cons (.same rfl) .nil)) rfl) rfl ?_) | (refine zu 81 (x := #[.tmp 171, .tmp 180]) ?_; refine zc rfl (zQ rfl x2 (.cons (.same rfl) (.cons (.same rfl) .nil)) rfl) rfl ?_) | (refine zv 81 (x := #[.tmp 171, .tmp 180]) rfl ?_; refine zX rfl (by kernel_rfl) rfl (zQ rfl x2 (.cons (.same rfl) (.cons (.same rfl) .nil)) rfl) rfl ?_) | refine zD ?_ | refine zB _ rfl (by kernel_rfl) ?_ | refine zV rfl ?_ | refine zW rfl ?_ | refine zC ?_ | with_reducible refine zO ?_ | refine zH ?_ | refine zI ?_ | (with_reducible first | refine zM ?_ | refine zN ?_ | refine zE ?_ | refine zG ?_ | refine zF ?_) | refine zP ?_ | (refine wB ?_; refine yW rfl rfl (fun hbr => ?_) (fun hbr => ?_) <;> (fail_if_success (with_reducible (have hx : true = true := hbr))) <;> (fail_if_success (with_reducible (have hx : false = false := hbr)))) | (refine zb rfl ?_; refine yI rfl rfl rfl rfl (fun hbr => ?_) (fun hbr => ?_) <;> (fail_if_success (with_reducible (have hx : true = true := hbr))) <;> (fail_if_success (with_reducible (have hx : false = false := hbr))))
            all_goals exact yK rfl rfl (congrArg B (by rw [e3]; clear hi hj q1 q2 q3 q4; simp only [*, Bool.true_or, Bool.false_or, Bool.or_true, Bool.or_false, Bool.true_and, Bool.false_and, Bool.and_true, Bool.and_false, Bool.not_true, Bool.not_false, cond_true, cond_false]))
        · rw [h2, cond_false] at e3
          repeat' first | refine zK ?_ | refine zA ?_ | refine zL [] ?_ | (refine isA ?_; refine zf rfl ?_) | (refine isL ?_; refine zU rfl (by kernel_rfl) rfl rfl ?_) | (refine zb rfl ?_; refine zT rfl (by kernel_rfl) rfl rfl ?_) | refine zD ?_ | refine zB _ rfl (by kernel_rfl) ?_ | refine zV rfl ?_ | refine zW rfl ?_ | refine zC ?_ | with_reducible refine zO ?_ | refine zH ?_ | refine zI ?_ | (with_reducible first | refine zM ?_ | refine zN ?_ | refine zE ?_ | refine zG ?_ | refine zF ?_) | refine zP ?_
          refine zd rfl (fun h3 => ?_) (fun h3 => ?_)
          · rw [h3, cond_true, gS s (by omega)] at e3
            repeat' first | refine zK ?_ | refine zA ?_ | refine zL [] ?_ | (refine isA ?_; refine zf rfl ?_) | (refine isL ?_; refine zU rfl (by kernel_rfl) rfl rfl ?_) | (refine zb rfl ?_; refine zT rfl (by kernel_rfl) rfl rfl ?_) | (refine zu 75 ?_; refine zc rfl (zQ rfl (xe _ _ _) (.cons (.same rfl) (.cons (.same rfl) (.cons (.same rfl) .nil))) rfl) rfl ?_) | (refine zv 75 rfl ?_; refine zX rfl (by kernel_rfl) rfl (zQ rfl (xe _ _ _) (.cons (.same rfl) (.cons (.same rfl) (.cons (.same rfl) .nil))) rfl) rfl ?_) | refine zD ?_ | refine zB _ rfl (by kernel_rfl) ?_ | refine zV rfl ?_ | refine zW rfl ?_ | refine zC ?_ | with_reducible refine zO ?_ | refine zH ?_ | refine zI ?_ | (with_reducible first | refine zM ?_ | refine zN ?_ | refine zE ?_ | refine zG ?_ | refine zF ?_) | refine zP ?_ | (refine wB ?_; refine yW rfl rfl (fun hbr => ?_) (fun hbr => ?_) <;> (fail_if_success (with_reducible (have hx : true = true := hbr))) <;> (fail_if_success (with_reducible (have hx : false = false := hbr)))) | (refine zb rfl ?_; refine yI rfl rfl rfl rfl (fun hbr => ?_) (fun hbr => ?_) <;> (fail_if_success (with_reducible (have hx : true = true := hbr))) <;> (fail_if_success (with_reducible (have hx : false = false := hbr))))
            all_goals exact yK rfl rfl (congrArg B (by rw [e3]; simp only [*, Bool.true_or, Bool.false_or, Bool.or_true, Bool.or_false, Bool.true_and, Bool.false_and, Bool.and_true, Bool.and_false, Bool.not_true, Bool.not_false, cond_true, cond_false]))
          · rw [h3, cond_false] at e3
            repeat' first | refine zK ?_ | refine zA ?_ | refine zL [] ?_ | (refine isA ?_; refine zf rfl ?_) | (refine isL ?_; refine zU rfl (by kernel_rfl) rfl rfl ?_) | (refine zb rfl ?_; refine zT rfl (by kernel_rfl) rfl rfl ?_) | refine zD ?_ | refine zB _ rfl (by kernel_rfl) ?_ | refine zV rfl ?_ | refine zW rfl ?_ | refine zC ?_ | with_reducible refine zO ?_ | refine zH ?_ | refine zI ?_ | (with_reducible first | refine zM ?_ | refine zN ?_ | refine zE ?_ | refine zG ?_ | refine zF ?_) | refine zP ?_
            refine zd rfl (fun h4 => ?_) (fun h4 => ?_)
            · rw [h4, cond_true, gT s] at e3
              repeat' first | refine zK ?_ | refine zA ?_ | refine zL [] ?_ | (refine isA ?_; refine zf rfl ?_) | (refine isL ?_; refine zU rfl (by kernel_rfl) rfl rfl ?_) | (refine zb rfl ?_; refine zT rfl (by kernel_rfl) rfl rfl ?_) | refine zD ?_ | refine zB _ rfl (by kernel_rfl) ?_ | refine zV rfl ?_ | refine zW rfl ?_ | refine zC ?_ | with_reducible refine zO ?_ | refine zH ?_ | refine zI ?_ | (with_reducible first | refine zM ?_ | refine zN ?_ | refine zE ?_ | refine zG ?_ | refine zF ?_) | refine zP ?_ | (refine wB ?_; refine yW rfl rfl (fun hbr => ?_) (fun hbr => ?_) <;> (fail_if_success (with_reducible (have hx : true = true := hbr))) <;> (fail_if_success (with_reducible (have hx : false = false := hbr)))) | (refine zb rfl ?_; refine yI rfl rfl rfl rfl (fun hbr => ?_) (fun hbr => ?_) <;> (fail_if_success (with_reducible (have hx : true = true := hbr))) <;> (fail_if_success (with_reducible (have hx : false = false := hbr))))
              all_goals exact yK rfl rfl (congrArg B (by rw [e3]; simp only [*, Bool.true_or, Bool.false_or, Bool.or_true, Bool.or_false, Bool.true_and, Bool.false_and, Bool.and_true, Bool.and_false, Bool.not_true, Bool.not_false, cond_true, cond_false]))
            · rw [h4, cond_false] at e3
              repeat' first | refine zK ?_ | refine zA ?_ | refine zL [] ?_ | (refine isA ?_; refine zf rfl ?_) | (refine isL ?_; refine zU rfl (by kernel_rfl) rfl rfl ?_) | (refine zb rfl ?_; refine zT rfl (by kernel_rfl) rfl rfl ?_) | exact yK rfl rfl (congrArg B (by rw [e3])) | refine zD ?_ | refine zB _ rfl (by kernel_rfl) ?_ | refine zV rfl ?_ | refine zW rfl ?_ | refine zC ?_ | with_reducible refine zO ?_ | refine zH ?_ | refine zI ?_ | (with_reducible first | refine zM ?_ | refine zN ?_ | refine zE ?_ | refine zG ?_ | refine zF ?_) | refine zP ?_
end Go.Proofs.Ytojcojanokhnaaa.Ab
namespace Go.Proofs.Ytojcojanokhnaaa.Ab
open Go.RowKit
theorem gR (s : So) (h : s.out.length ≤ 1000000000) : tn s = (decide (s.lp = 0) && (decide (s.rp = 0) && ((decide ((s.dfr.length : Int) = 0) || decide ((0 : Int) ≤ IntKind.i64.wrap ((s.out.length : Int) - 1))) && (decide (yv s ≤ 60) && eqB (s.runs.flatten ++ s.out ++ s.heap ++ s.dfr) (s.input.take s.pos.toNat))))) := by
  rw [nS, Bool.or_comm, show decide ((0 : Int) < (s.out.length : Int)) = decide ((0 : Int) ≤ IntKind.i64.wrap ((s.out.length : Int) - 1)) from decide_eq_decide.2 (by rw [IntKind.wrap_i64]; omega)]
theorem gQ (s : So) (h1 : s.heap.length ≤ 1000000000) (h2 : s.dfr.length ≤ 1000000000) : vE s = (!(!decide (s.pos = s.input.length) || decide ((0 : Int) < IntKind.i64.wrap ((s.heap.length : Int) + (s.dfr.length : Int)))) && eqB s.runs.flatten s.input) := by
  rw [nQ, show decide ((0 : Int) < IntKind.i64.wrap ((s.heap.length : Int) + (s.dfr.length : Int))) = (decide ((0 : Int) < (s.heap.length : Int)) || decide ((0 : Int) < (s.dfr.length : Int))) from by rw [← Bool.decide_or]; exact decide_eq_decide.2 (by rw [IntKind.wrap_i64]; omega)]
  generalize decide (s.pos = s.input.length) = p
  generalize decide ((0 : Int) < (s.heap.length : Int)) = q
  generalize decide ((0 : Int) < (s.dfr.length : Int)) = r
  generalize eqB s.runs.flatten s.input = t
  cases p <;> cases q <;> cases r <;> cases t <;> rfl
theorem vTail (s : So) : cond (decide (s.ph = 3)) (uC s) (cond (decide (s.ph = 4)) (uD s) false) = (!(decide ((1 : Int) < (s.runs.length : Int)) || (!decide (s.rp = 0) || decide ((0 : Int) < (s.out.length : Int)))) && cond (decide (s.ph = 3)) (decide ((s.runs.length : Int) = 1) && inV s.lp 0 ((s.input.length : Int) - 1)) (decide (s.ph = 4) && decide (s.lp = s.input.length))) := by
  unfold uC uD
  rw [show decide (s.out.length = 0) = !decide ((0 : Int) < (s.out.length : Int)) from by rw [← decide_not]; exact decide_eq_decide.2 (by omega), show decide (s.runs.length ≤ 1) = !decide ((1 : Int) < (s.runs.length : Int)) from by rw [← decide_not]; exact decide_eq_decide.2 (by omega), show decide (s.runs.length = 1) = decide ((s.runs.length : Int) = 1) from decide_eq_decide.2 (by omega)]
  rcases Classical.em ((s.runs.length : Int) = 1) with h | h
  · rw [decide_eq_true h, decide_eq_false (show ¬ (1 : Int) < (s.runs.length : Int) by omega)]
    generalize decide ((0 : Int) < (s.out.length : Int)) = q
    generalize decide (s.rp = 0) = r
    generalize inV s.lp 0 ((s.input.length : Int) - 1) = t
    generalize decide (s.lp = s.input.length) = u
    cases decide (s.ph = 3) <;> cases decide (s.ph = 4) <;> cases q <;> cases r <;> cases t <;> cases u <;> rfl
  · rw [decide_eq_false h]
    generalize decide ((1 : Int) < (s.runs.length : Int)) = p
    generalize decide ((0 : Int) < (s.out.length : Int)) = q
    generalize decide (s.rp = 0) = r
    generalize inV s.lp 0 ((s.input.length : Int) - 1) = t
    generalize decide (s.lp = s.input.length) = u
    cases decide (s.ph = 3) <;> cases decide (s.ph = 4) <;> cases p <;> cases q <;> cases r <;> cases t <;> cases u <;> rfl
theorem vt (s : So) (hok : okSo s) : zy Go.Proofs.Try.prog 18 [.agg (soE s)] [] (B (vS s)) [] false := by
  have g1 := hok.input
  have g2 := hok.heap
  have g3 := hok.dfr
  have g4 := hok.out
  have g5 := hok.rn
  have g6 := hok.tot
  have g7 := vJ s.runs
  have a1 := qh s.input (by omega)
  have a2 := el s.runs g5
  have a3 := jo s.out (by omega)
  have a4 := qg s hok
  have a5 := (mL s.runs g5 (by omega)).frozen (zq rfl)
  have a6 := mM s.runs.flatten s.input (by omega) (by omega)
  refine zw [2] Go.Proofs.Try.func18 rfl rfl ?_
  simp only [Go.Proofs.Try.ntmps18, List.length_cons, List.length_nil, Nat.reduceAdd, Nat.reduceSub, List.replicate_succ, List.replicate_zero, List.cons_append, List.nil_append]
  repeat' first | refine zK ?_ | refine zA ?_ | refine zL [] ?_ | (refine isA ?_; refine zf rfl ?_) | (refine isL ?_; refine zU rfl (by kernel_rfl) rfl rfl ?_) | (refine zb rfl ?_; refine zT rfl (by kernel_rfl) rfl rfl ?_) | (refine zu 25 ?_; refine zc rfl (zQ rfl a1 (.cons (.same rfl) .nil) rfl) rfl ?_) | (refine zv 25 rfl ?_; refine zX rfl (by kernel_rfl) rfl (zQ rfl a1 (.cons (.same rfl) .nil) rfl) rfl ?_) | (refine zu 66 ?_; refine zc rfl (zQ rfl (vT _ _ _) (.cons (.same rfl) (.cons (.same rfl) (.cons (.same rfl) .nil))) rfl) rfl ?_) | (refine zv 66 rfl ?_; refine zX rfl (by kernel_rfl) rfl (zQ rfl (vT _ _ _) (.cons (.same rfl) (.cons (.same rfl) (.cons (.same rfl) .nil))) rfl) rfl ?_) | (refine zu 83 ?_; refine zc rfl (zQ rfl a2 (.cons (.same rfl) .nil) rfl) rfl ?_) | (refine zv 83 rfl ?_; refine zX rfl (by kernel_rfl) rfl (zQ rfl a2 (.cons (.same rfl) .nil) rfl) rfl ?_) | (refine zu 84 ?_; refine zc rfl (zQ rfl a3 (.cons (.same rfl) .nil) rfl) rfl ?_) | (refine zv 84 rfl ?_; refine zX rfl (by kernel_rfl) rfl (zQ rfl a3 (.cons (.same rfl) .nil) rfl) rfl ?_) | refine zD ?_ | refine zB _ rfl (by kernel_rfl) ?_ | refine zV rfl ?_ | refine zW rfl ?_ | refine zC ?_ | with_reducible refine zO ?_ | refine zH ?_ | refine zI ?_ | (with_reducible first | refine zM ?_ | refine zN ?_ | refine zE ?_ | refine zG ?_ | refine zF ?_) | refine zP ?_ | refine zd rfl (fun hbr => ?_) (fun hbr => ?_) | (refine wB ?_; refine yW rfl rfl (fun hbr => ?_) (fun hbr => ?_) <;> (fail_if_success (with_reducible (have hx : true = true := hbr))) <;> (fail_if_success (with_reducible (have hx : false = false := hbr)))) | (refine zb rfl ?_; refine yI rfl rfl rfl rfl (fun hbr => ?_) (fun hbr => ?_) <;> (fail_if_success (with_reducible (have hx : true = true := hbr))) <;> (fail_if_success (with_reducible (have hx : false = false := hbr))))
  all_goals first
    | exact yK rfl rfl (congrArg B (nP (by rw [nT]; simp only [*, Bool.true_or, Bool.false_or, Bool.or_true, Bool.or_false, Bool.true_and, Bool.false_and, Bool.and_true, Bool.and_false, Bool.not_true, Bool.not_false, cond_true, cond_false])).symm)
    | skip
  have hq : (avR s.input && (inV s.pos 0 s.input.length && (avS s.runs && (!decide (s.wr < 0) && vb s.out)))) = true := by
    simp only [Bool.not_eq_false'] at *
    simp only [*, Bool.true_and, Bool.not_false]
  refine z9 (α := { i : Nat // i ≤ s.heap.length ∧ ∀ j z, j < i → s.heap[j]? = some z → bel z s.out = false }) (fun i => ⟨(.any :: (.ptr 0 0) :: .any :: (I (IntKind.i64.wrap ((s.out.length : Int) - 1))) :: (I i.1) :: .any :: .any :: .any :: .any :: .any :: .any :: .any :: .any :: .any :: .any :: .any :: .any :: .any :: .any :: .any :: .any :: .any :: .any :: .any :: .any :: .any :: .any :: .any :: .any :: .any :: .any :: .any :: .any :: .any :: .any :: .any :: .any :: .any :: .any :: .any :: .any :: .any :: .any :: .any :: .any :: .any :: .any :: .any :: .any :: .any :: .any :: .any :: .any :: .any :: .any :: .any :: .any :: .any :: .any :: .any :: .any :: .any :: .any :: .any :: .any :: .any :: .any :: .any :: .any :: .any :: .any :: .any :: .any :: .any :: .any :: .any :: .any :: .any :: .any :: .any :: .any :: .any :: .any :: .any :: .any :: .any :: .any :: .any :: .any :: .any :: .any :: .any :: .any :: .any :: .any :: .any :: .any :: .any :: .any :: .any :: .any :: .any :: .any :: .any :: .any :: .any :: .any :: .any :: .any :: .any :: .any :: .any :: .any :: .any :: .any :: .any :: .any :: .any :: .any :: .any :: .any :: .any :: .any :: .any :: .any :: .any :: .any :: .any :: .any :: .any :: .any :: .any :: .any :: .any :: .any :: .any :: .any :: .any :: .any :: .any :: .any :: .any :: .any :: .any :: .any :: .any :: .any :: .any :: .any :: .any :: .any :: .any :: .any :: .any :: .any :: .any :: .any :: .any :: .any :: .any :: .any :: .any :: .any :: .any :: .any :: .any :: .any :: .any :: .any :: .any :: .any :: .any :: .any :: .any :: .any :: .any :: .any :: .any :: .any :: .any :: .any :: .any :: .any :: .any :: .any :: .any :: .any :: .any :: .any :: .any :: .any :: .any :: .any :: .any :: .any :: .any :: .any :: .any :: .any :: .any :: .any :: .any :: .any :: .any :: .any :: .any :: .any :: .any :: .any :: .any :: .any :: .any :: .any :: .any :: .any :: .any :: .any :: .any :: .any :: .any :: .any :: .any :: .any :: .any :: .any :: .any :: .any :: .any :: .any :: .any :: .any :: .any :: .any :: .any :: .any :: .any :: .any :: .any :: .any :: .any :: .any :: .any :: .any :: .any :: .any :: .any :: .any :: .any :: .any :: .any :: .any :: .any :: .any :: .any :: .any :: .any :: .any :: .any :: .any :: .any :: []), [⟨27, 10, soE s, 0⟩], 0⟩) (fun i => s.heap.length - i.1) ⟨0, Nat.zero_le _, fun j z h => absurd h (Nat.not_lt_zero j)⟩ ?_ ?_
  · exact yb [0] rfl rfl (by decide) (by repeat' first | exact HLes.nil | refine HLes.cons rfl rfl rfl rfl ?_ ?_ | exact zg | refine zZ ?_ ?_ | exact zo | exact le_refl rfl | exact zj rfl rfl | exact zt rfl) (by repeat' first | exact zg | refine zZ ?_ ?_ | exact zo | exact le_refl rfl | exact zj rfl rfl | exact zt rfl)
  · rintro ⟨i, hi, hb⟩
    repeat' first | refine zK ?_ | refine zA ?_ | refine zL [] ?_ | (refine isA ?_; refine zf rfl ?_) | (refine isL ?_; refine zU rfl (by kernel_rfl) rfl rfl ?_) | (refine zb rfl ?_; refine zT rfl (by kernel_rfl) rfl rfl ?_) | refine zD ?_ | refine zB _ rfl (by kernel_rfl) ?_ | refine zV rfl ?_ | refine zW rfl ?_ | refine zC ?_ | with_reducible refine zO ?_ | refine zH ?_ | refine zI ?_ | (with_reducible first | refine zM ?_ | refine zN ?_ | refine zE ?_ | refine zG ?_ | refine zF ?_) | refine zP ?_
    refine zd rfl (fun h => ?_) (fun h => ?_)
    · have hlt : i < s.heap.length := by simpa using h
      obtain ⟨z, hz⟩ : ∃ z, s.heap[i]? = some z := ⟨_, List.getElem?_eq_getElem hlt⟩
      repeat' first | refine zK ?_ | refine zA ?_ | refine zL [] ?_ | (refine isA ?_; refine zf rfl ?_) | (refine isL ?_; refine zU rfl (by kernel_rfl) rfl rfl ?_) | (refine zb rfl ?_; refine zT rfl (by kernel_rfl) rfl rfl ?_) | refine zD ?_ | refine zB _ rfl (by kernel_rfl) ?_ | refine zV rfl ?_ | refine zW rfl ?_ | refine zC ?_ | with_reducible refine zO ?_ | refine zH ?_ | refine zI ?_ | (with_reducible first | refine zM ?_ | refine zN ?_ | refine zE ?_ | refine zG ?_ | refine zF ?_) | refine zP ?_
      refine yI rfl rfl rfl rfl (fun p1 => ?_) (fun p1 => ?_)
      · have q1 : 0 < s.out.length := by have := of_decide_eq_true p1; rw [IntKind.wrap_i64] at this; omega
        obtain ⟨y, hy⟩ : ∃ z, s.out[s.out.length - 1]? = some z := ⟨_, List.getElem?_eq_getElem (by omega)⟩
        have ew : IntKind.i64.wrap ((s.out.length : Int) - 1) = ((s.out.length - 1 : Nat) : Int) := by rw [IntKind.wrap_i64]; omega
        have eb : bel z s.out = decide (yr z y < 0) := by unfold bel; rw [hy]; rfl
        repeat' first | refine zK ?_ | refine zA ?_ | refine zL [] ?_ | (refine isA ?_; refine zf rfl ?_) | (refine isL ?_; refine zU rfl (by kernel_rfl) rfl rfl ?_) | (refine zb rfl ?_; refine zT rfl (by kernel_rfl) rfl rfl ?_) | (refine yG (x := .tmp 52) ?_; refine zc rfl (z5 (t := rwT) (z := z) rfl rfl rfl rfl (Int.natCast_nonneg i) hz) rfl ?_) | (refine yF (x := .tmp 52) rfl ?_; refine zX rfl (by kernel_rfl) rfl (z5 (t := rwT) (z := z) rfl rfl rfl rfl (Int.natCast_nonneg i) hz) rfl ?_) | (refine yG (x := .tmp 57) ?_; refine zc rfl (z5 (t := rwT) (j := ((s.out.length - 1 : Nat) : Int)) (z := y) rfl rfl rfl (congrArg I ew) (Int.natCast_nonneg _) hy) rfl ?_) | (refine yF (x := .tmp 57) rfl ?_; refine zX rfl (by kernel_rfl) rfl (z5 (t := rwT) (j := ((s.out.length - 1 : Nat) : Int)) (z := y) rfl rfl rfl (congrArg I ew) (Int.natCast_nonneg _) hy) rfl ?_) | (refine zu 68 ?_; refine zc rfl (zQ rfl (xa z y) (.cons (.same rfl) (.cons (.same rfl) .nil)) rfl) rfl ?_) | (refine zv 68 rfl ?_; refine zX rfl (by kernel_rfl) rfl (zQ rfl (xa z y) (.cons (.same rfl) (.cons (.same rfl) .nil)) rfl) rfl ?_) | refine zD ?_ | refine zB _ rfl (by kernel_rfl) ?_ | refine zV rfl ?_ | refine zW rfl ?_ | refine zC ?_ | with_reducible refine zO ?_ | refine zH ?_ | refine zI ?_ | (with_reducible first | refine zM ?_ | refine zN ?_ | refine zE ?_ | refine zG ?_ | refine zF ?_) | refine zP ?_
        refine zd rfl (fun p => ?_) (fun p => ?_)
        · repeat' first | refine zK ?_ | refine zA ?_ | refine zL [] ?_ | (refine isA ?_; refine zf rfl ?_) | (refine isL ?_; refine zU rfl (by kernel_rfl) rfl rfl ?_) | (refine zb rfl ?_; refine zT rfl (by kernel_rfl) rfl rfl ?_) | exact yK rfl rfl (congrArg B (nP (nu hz (eb.trans p))).symm) | refine zD ?_ | refine zB _ rfl (by kernel_rfl) ?_ | refine zV rfl ?_ | refine zW rfl ?_ | refine zC ?_ | with_reducible refine zO ?_ | refine zH ?_ | refine zI ?_ | (with_reducible first | refine zM ?_ | refine zN ?_ | refine zE ?_ | refine zG ?_ | refine zF ?_) | refine zP ?_
        · repeat' first | refine zK ?_ | refine zA ?_ | refine zL [] ?_ | (refine isA ?_; refine zf rfl ?_) | (refine isL ?_; refine zU rfl (by kernel_rfl) rfl rfl ?_) | (refine zb rfl ?_; refine zT rfl (by kernel_rfl) rfl rfl ?_) | refine zD ?_ | refine zB _ rfl (by kernel_rfl) ?_ | refine zV rfl ?_ | refine zW rfl ?_ | refine zC ?_ | with_reducible refine zO ?_ | refine zH ?_ | refine zI ?_ | (with_reducible first | refine zM ?_ | refine zN ?_ | refine zE ?_ | refine zG ?_ | refine zF ?_) | refine zP ?_
          refine ⟨⟨i + 1, hlt, tB hb hz (eb.trans p)⟩, by simp only; omega, ?_⟩
          exact yb [0] rfl rfl (by decide) (by repeat' first | exact HLes.nil | refine HLes.cons rfl rfl rfl rfl ?_ ?_ | exact zg | refine zZ ?_ ?_ | exact zo | exact le_refl rfl | exact zj rfl rfl | exact zt rfl) (by repeat' first | exact zg | refine zZ ?_ ?_ | exact zo | exact le_refl rfl | exact zj rfl rfl | exact zt rfl | exact xI (by assumption) (by omega))
      · have q1 : s.out.length = 0 := by have := of_decide_eq_false p1; rw [IntKind.wrap_i64] at this; omega
        have eb : bel z s.out = false := by rw [List.eq_nil_of_length_eq_zero q1]; rfl
        repeat' first | refine zK ?_ | refine zA ?_ | refine zL [] ?_ | (refine isA ?_; refine zf rfl ?_) | (refine isL ?_; refine zU rfl (by kernel_rfl) rfl rfl ?_) | (refine zb rfl ?_; refine zT rfl (by kernel_rfl) rfl rfl ?_) | refine zD ?_ | refine zB _ rfl (by kernel_rfl) ?_ | refine zV rfl ?_ | refine zW rfl ?_ | refine zC ?_ | with_reducible refine zO ?_ | refine zH ?_ | refine zI ?_ | (with_reducible first | refine zM ?_ | refine zN ?_ | refine zE ?_ | refine zG ?_ | refine zF ?_) | refine zP ?_
        refine ⟨⟨i + 1, hlt, tB hb hz eb⟩, by simp only; omega, ?_⟩
        exact yb [0] rfl rfl (by decide) (by repeat' first | exact HLes.nil | refine HLes.cons rfl rfl rfl rfl ?_ ?_ | exact zg | refine zZ ?_ ?_ | exact zo | exact le_refl rfl | exact zj rfl rfl | exact zt rfl) (by repeat' first | exact zg | refine zZ ?_ ?_ | exact zo | exact le_refl rfl | exact zj rfl rfl | exact zt rfl | exact xI (by assumption) (by omega))
    · have hge : i = s.heap.length := by
        have : ¬ ((i : Int) < s.heap.length) := by simpa using h
        omega
      subst hge
      have hB := pP hq hb
      have e1 := fR hB
      have e2 := fQ hB
      simp only [Bool.and_eq_true, xC] at hq
      obtain ⟨hv0, ⟨hp0, hp1⟩, hv1, hv2, hv3⟩ := hq
      repeat' first | refine zK ?_ | refine zA ?_ | refine zL [] ?_ | (refine isA ?_; refine zf rfl ?_) | (refine isL ?_; refine zU rfl (by kernel_rfl) rfl rfl ?_) | (refine zb rfl ?_; refine zT rfl (by kernel_rfl) rfl rfl ?_) | refine zD ?_ | refine zB _ rfl (by kernel_rfl) ?_ | refine zV rfl ?_ | refine zW rfl ?_ | refine zC ?_ | with_reducible refine zO ?_ | refine zH ?_ | refine zI ?_ | (with_reducible first | refine zM ?_ | refine zN ?_ | refine zE ?_ | refine zG ?_ | refine zF ?_) | refine zP ?_
      refine zd rfl (fun h => ?_) (fun h => ?_)
      · have e1 := e1 h
        rw [gR s (by omega)] at e1
        have hp : s.pos = ((s.pos.toNat : Nat) : Int) := by omega
        have a7 := mL s.runs g5 (by omega)
        have a8 := mM (s.runs.flatten ++ s.out ++ s.heap ++ s.dfr) (s.input.take s.pos.toNat) (by rw [List.length_append, List.length_append, List.length_append]; omega) (by simp; omega)
        repeat' first | refine zK ?_ | refine zA ?_ | (refine isA ?_; refine zf rfl ?_) | (refine isL ?_; refine zU rfl (by kernel_rfl) rfl rfl ?_) | (refine zb rfl ?_; refine zT rfl (by kernel_rfl) rfl rfl ?_) | refine zD ?_ | refine zB _ rfl (by kernel_rfl) ?_ | refine zV rfl ?_ | refine zW rfl ?_ | refine zC ?_ | with_reducible refine zO ?_ | refine zH ?_ | refine zI ?_ | (with_reducible first | refine zM ?_ | refine zN ?_ | refine zE ?_ | refine zG ?_ | refine zF ?_) | refine zP ?_
        refine ut (fun H => H[0]? = some (⟨27, 10, soE s, 0⟩ : Reg)) 13 rfl ?_
        refine yU 0 rfl rfl (by kernel_rfl) rfl (fun _ => rfl) rfl ?_
        refine y4 1 rfl rfl (by kernel_rfl) rfl (fun _ hG => xl rfl rfl hG rfl rfl) rfl ?_
        refine yU 3 rfl rfl (by kernel_rfl) rfl (fun _ => rfl) rfl ?_
        refine y4 4 rfl rfl (by kernel_rfl) rfl (fun _ hG => xl rfl rfl hG rfl rfl) rfl ?_
        refine yU 6 rfl rfl (by kernel_rfl) rfl (fun _ => rfl) rfl ?_
        refine y4 7 rfl rfl (by kernel_rfl) rfl (fun _ hG => xl rfl rfl hG rfl rfl) rfl ?_
        refine yU 9 rfl rfl (by kernel_rfl) rfl (fun _ => rfl) rfl ?_
        refine y4 10 rfl rfl (by kernel_rfl) rfl (fun _ hG => xl rfl rfl hG rfl rfl) rfl ?_
        refine wG 2 (by kernel_rfl) ?_
        refine sZ rfl rfl (yd rfl a7 (.cons (.same rfl) .nil) (fun q hq => by simp at hq; subst hq; exact zJ _ _) rfl rfl) rfl rfl ?_
        refine wG 5 (by kernel_rfl) ?_
        refine sZ rfl rfl (yX (t := rwT) (xs := s.runs.flatten) (ys := s.out) rfl rfl rfl rfl (.lst _ _) (by omega) rfl) rfl rfl ?_
        refine wG 8 (by kernel_rfl) ?_
        refine sZ rfl rfl (yX (t := rwT) (xs := s.runs.flatten ++ s.out) (ys := s.heap) rfl rfl rfl rfl (.lst _ _) (by rw [List.length_append]; omega) rfl) rfl rfl ?_
        refine wG 11 (by kernel_rfl) ?_
        refine sZ rfl rfl (yX (t := rwT) (xs := s.runs.flatten ++ s.out ++ s.heap) (ys := s.dfr) rfl rfl rfl rfl (.lst _ _) (by rw [List.length_append, List.length_append]; omega) rfl) rfl rfl ?_
        refine yU 12 rfl rfl (by kernel_rfl) rfl (fun _ => rfl) rfl ?_
        refine wj (by kernel_rfl) ?_
        repeat' first | refine zK ?_ | refine zA ?_ | refine zL [] ?_ | (refine isA ?_; refine zf rfl ?_) | (refine isL ?_; refine zU rfl (by kernel_rfl) rfl rfl ?_) | (refine zb rfl ?_; refine zT rfl (by kernel_rfl) rfl rfl ?_) | (refine zu 20 ?_; refine zc rfl (zQ rfl a4 (.cons (.same rfl) .nil) rfl) rfl ?_) | (refine zv 20 rfl ?_; refine zX rfl (by kernel_rfl) rfl (zQ rfl a4 (.cons (.same rfl) .nil) rfl) rfl ?_) | (refine zu 86 ?_; refine zc rfl (zQ rfl a8 (.cons (zq rfl) (.cons (.same rfl) .nil)) rfl) rfl ?_) | (refine zv 86 rfl ?_; refine zX rfl (by kernel_rfl) rfl (zQ rfl a8 (.cons (zq rfl) (.cons (.same rfl) .nil)) rfl) rfl ?_) | (refine uA (x := .tmp 105) ?_; refine zc rfl (yg rfl rfl (congrArg I hp) (by omega)) rfl ?_) | (refine v9 (x := .tmp 105) rfl ?_; refine zX rfl (by kernel_rfl) rfl (yg rfl rfl (congrArg I hp) (by omega)) rfl ?_) | refine zD ?_ | refine zB _ rfl (by kernel_rfl) ?_ | refine zV rfl ?_ | refine zW rfl ?_ | refine zC ?_ | with_reducible refine zO ?_ | refine zH ?_ | refine zI ?_ | (with_reducible first | refine zM ?_ | refine zN ?_ | refine zE ?_ | refine zG ?_ | refine zF ?_) | refine zP ?_ | refine zd rfl (fun hbr => ?_) (fun hbr => ?_) | (refine wB ?_; refine yW rfl rfl (fun hbr => ?_) (fun hbr => ?_) <;> (fail_if_success (with_reducible (have hx : true = true := hbr))) <;> (fail_if_success (with_reducible (have hx : false = false := hbr)))) | (refine zb rfl ?_; refine yI rfl rfl rfl rfl (fun hbr => ?_) (fun hbr => ?_) <;> (fail_if_success (with_reducible (have hx : true = true := hbr))) <;> (fail_if_success (with_reducible (have hx : false = false := hbr))))
        all_goals exact yK rfl rfl (congrArg B (by rw [e1]; clear e1 e2 hp; simp only [*, Bool.true_or, Bool.false_or, Bool.or_true, Bool.or_false, Bool.true_and, Bool.false_and, Bool.and_true, Bool.and_false, Bool.not_true, Bool.not_false, cond_true, cond_false]))
      · have e2 := e2 h
        rw [gQ s (by omega) (by omega)] at e2
        repeat' first | refine zK ?_ | refine zA ?_ | refine zL [] ?_ | (refine isA ?_; refine zf rfl ?_) | (refine isL ?_; refine zU rfl (by kernel_rfl) rfl rfl ?_) | (refine zb rfl ?_; refine zT rfl (by kernel_rfl) rfl rfl ?_) | refine zD ?_ | refine zB _ rfl (by kernel_rfl) ?_ | refine zV rfl ?_ | refine zW rfl ?_ | refine zC ?_ | with_reducible refine zO ?_ | refine zH ?_ | refine zI ?_ | (with_reducible first | refine zM ?_ | refine zN ?_ | refine zE ?_ | refine zG ?_ | refine zF ?_) | refine zP ?_ | (refine wB ?_; refine yW rfl rfl (fun hbr => ?_) (fun hbr => ?_) <;> (fail_if_success (with_reducible (have hx : true = true := hbr))) <;> (fail_if_success (with_reducible (have hx : false = false := hbr)))) | (refine zb rfl ?_; refine yI rfl rfl rfl rfl (fun hbr => ?_) (fun hbr => ?_) <;> (fail_if_success (with_reducible (have hx : true = true := hbr))) <;> (fail_if_success (with_reducible (have hx : false = false := hbr))))
        all_goals first
          | exact yK rfl rfl (congrArg B (by rw [e2]; clear e1 e2; simp only [*, Bool.true_or, Bool.false_or, Bool.or_true, Bool.or_false, Bool.true_and, Bool.false_and, Bool.and_true, Bool.and_false, Bool.not_true, Bool.not_false, cond_true, cond_false]))
          | skip
        refine zd rfl (fun q => ?_) (fun q => ?_)
        · repeat' first | refine zK ?_ | refine zA ?_ | refine zL [] ?_ | (refine isA ?_; refine zf rfl ?_) | (refine isL ?_; refine zU rfl (by kernel_rfl) rfl rfl ?_) | (refine zb rfl ?_; refine zT rfl (by kernel_rfl) rfl rfl ?_) | exact yK rfl rfl (congrArg B (by rw [e2]; clear e1 e2; simp only [*, Bool.true_or, Bool.false_or, Bool.or_true, Bool.or_false, Bool.true_and, Bool.false_and, Bool.and_true, Bool.and_false, Bool.not_true, Bool.not_false, cond_true, cond_false])) | refine zD ?_ | refine zB _ rfl (by kernel_rfl) ?_ | refine zV rfl ?_ | refine zW rfl ?_ | refine zC ?_ | with_reducible refine zO ?_ | refine zH ?_ | refine zI ?_ | (with_reducible first | refine zM ?_ | refine zN ?_ | refine zE ?_ | refine zG ?_ | refine zF ?_) | refine zP ?_
        have e3 : vS s = (eqB s.runs.flatten s.input && cond (decide (s.ph = 2)) (w3 s) (cond (decide (s.ph = 3)) (uC s) (cond (decide (s.ph = 4)) (uD s) false))) := by
          rw [e2]
          clear e1 e2
          simp only [*, Bool.true_or, Bool.false_or, Bool.or_true, Bool.or_false, Bool.true_and, Bool.false_and, Bool.and_true, Bool.and_false, Bool.not_true, Bool.not_false, cond_true, cond_false]
        clear e1 e2
        repeat' first | refine zK ?_ | refine zA ?_ | refine zL [] ?_ | (refine isA ?_; refine zf rfl ?_) | (refine isL ?_; refine zU rfl (by kernel_rfl) rfl rfl ?_) | (refine zb rfl ?_; refine zT rfl (by kernel_rfl) rfl rfl ?_) | refine zD ?_ | refine zB _ rfl (by kernel_rfl) ?_ | refine zV rfl ?_ | refine zW rfl ?_ | refine zC ?_ | with_reducible refine zO ?_ | refine zH ?_ | refine zI ?_ | (with_reducible first | refine zM ?_ | refine zN ?_ | refine zE ?_ | refine zG ?_ | refine zF ?_) | refine zP ?_
        refine zd rfl (fun h2 => ?_) (fun h2 => ?_)
        · rw [h2, cond_true] at e3
          repeat' first | refine zK ?_ | refine zA ?_ | refine zL [] ?_ | (refine isA ?_; refine zf rfl ?_) | (refine isL ?_; refine zU rfl (by kernel_rfl) rfl rfl ?_) | (refine zb rfl ?_; refine zT rfl (by kernel_rfl) rfl rfl ?_) | refine zD ?_ | refine zB _ rfl (by kernel_rfl) ?_ | refine zV rfl ?_ | refine zW rfl ?_ | refine zC ?_ | with_reducible refine zO ?_ | refine zH ?_ | refine zI ?_ | (with_reducible first | refine zM ?_ | refine zN ?_ | refine zE ?_ | refine zG ?_ | refine zF ?_) | refine zP ?_
          refine yI rfl rfl rfl rfl (fun h3 => ?_) (fun h3 => ?_)
          · repeat' first | refine zK ?_ | refine zA ?_ | refine zL [] ?_ | (refine isA ?_; refine zf rfl ?_) | (refine isL ?_; refine zU rfl (by kernel_rfl) rfl rfl ?_) | (refine zb rfl ?_; refine zT rfl (by kernel_rfl) rfl rfl ?_) | exact yK rfl rfl (congrArg B (by rw [e3, qo h3, Bool.and_false])) | refine zD ?_ | refine zB _ rfl (by kernel_rfl) ?_ | refine zV rfl ?_ | refine zW rfl ?_ | refine zC ?_ | with_reducible refine zO ?_ | refine zH ?_ | refine zI ?_ | (with_reducible first | refine zM ?_ | refine zN ?_ | refine zE ?_ | refine zG ?_ | refine zF ?_) | refine zP ?_
          · obtain ⟨a, b, rest, hr⟩ := qq h3
            rw [qp hr] at e3
            have ra : s.runs[0]? = some a := by rw [hr]; rfl
            have rb : s.runs[1]? = some b := by rw [hr]; rfl
            have la := g5.at ra
            have lb := g5.at rb
            have lab : a.length + b.length ≤ 10000000 := by rw [hr] at g6; simp only [tot, List.map_cons, List.sum_cons] at g6; omega
            repeat' first | refine zK ?_ | refine zA ?_ | refine zL [] ?_ | (refine isA ?_; refine zf rfl ?_) | (refine isL ?_; refine zU rfl (by kernel_rfl) rfl rfl ?_) | (refine zb rfl ?_; refine zT rfl (by kernel_rfl) rfl rfl ?_) | (refine zu 66 ?_; refine zc rfl (zQ rfl (vT _ _ _) (.cons (.same rfl) (.cons (.same rfl) (.cons (.same rfl) .nil))) rfl) rfl ?_) | (refine zv 66 rfl ?_; refine zX rfl (by kernel_rfl) rfl (zQ rfl (vT _ _ _) (.cons (.same rfl) (.cons (.same rfl) (.cons (.same rfl) .nil))) rfl) rfl ?_) | (refine yG (x := .tmp 138) ?_; refine zc rfl (z5 (t := rnT) (z := a) rfl rfl rfl rfl (Int.natCast_nonneg 0) ra) rfl ?_) | (refine yF (x := .tmp 138) rfl ?_; refine zX rfl (by kernel_rfl) rfl (z5 (t := rnT) (z := a) rfl rfl rfl rfl (Int.natCast_nonneg 0) ra) rfl ?_) | (refine yG (x := .tmp 150) ?_; refine zc rfl (z5 (t := rnT) (z := b) rfl rfl rfl rfl (Int.natCast_nonneg 1) rb) rfl ?_) | (refine yF (x := .tmp 150) rfl ?_; refine zX rfl (by kernel_rfl) rfl (z5 (t := rnT) (z := b) rfl rfl rfl rfl (Int.natCast_nonneg 1) rb) rfl ?_) | refine zD ?_ | refine zB _ rfl (by kernel_rfl) ?_ | refine zV rfl ?_ | refine zW rfl ?_ | refine zC ?_ | with_reducible refine zO ?_ | refine zH ?_ | refine zI ?_ | (with_reducible first | refine zM ?_ | refine zN ?_ | refine zE ?_ | refine zG ?_ | refine zF ?_) | refine zP ?_ | (refine wB ?_; refine yW rfl rfl (fun hbr => ?_) (fun hbr => ?_) <;> (fail_if_success (with_reducible (have hx : true = true := hbr))) <;> (fail_if_success (with_reducible (have hx : false = false := hbr)))) | (refine zb rfl ?_; refine yI rfl rfl rfl rfl (fun hbr => ?_) (fun hbr => ?_) <;> (fail_if_success (with_reducible (have hx : true = true := hbr))) <;> (fail_if_success (with_reducible (have hx : false = false := hbr))))
            all_goals first
              | exact yK rfl rfl (congrArg B (by rw [e3]; simp only [*, Bool.true_or, Bool.false_or, Bool.or_true, Bool.or_false, Bool.true_and, Bool.false_and, Bool.and_true, Bool.and_false, Bool.not_true, Bool.not_false, cond_true, cond_false]))
              | skip
            refine zd rfl (fun p => ?_) (fun p => ?_)
            · repeat' first | refine zK ?_ | refine zA ?_ | refine zL [] ?_ | (refine isA ?_; refine zf rfl ?_) | (refine isL ?_; refine zU rfl (by kernel_rfl) rfl rfl ?_) | (refine zb rfl ?_; refine zT rfl (by kernel_rfl) rfl rfl ?_) | exact yK rfl rfl (congrArg B (by rw [e3]; simp only [*, Bool.true_or, Bool.false_or, Bool.or_true, Bool.or_false, Bool.true_and, Bool.false_and, Bool.and_true, Bool.and_false, Bool.not_true, Bool.not_false, cond_true, cond_false])) | refine zD ?_ | refine zB _ rfl (by kernel_rfl) ?_ | refine zV rfl ?_ | refine zW rfl ?_ | refine zC ?_ | with_reducible refine zO ?_ | refine zH ?_ | refine zI ?_ | (with_reducible first | refine zM ?_ | refine zN ?_ | refine zE ?_ | refine zG ?_ | refine zF ?_) | refine zP ?_
            have p1 : (!inV s.lp 0 a.length) = false := by assumption
            have p1 : inV s.lp 0 a.length = true := by simpa using p1
            have p2 : inV s.rp 0 b.length = true := by simpa using p
            rw [p1, p2] at e3
            simp only [Bool.true_or, Bool.false_or, Bool.or_true, Bool.or_false, Bool.true_and, Bool.false_and, Bool.and_true, Bool.and_false, Bool.not_true, Bool.not_false, cond_true, cond_false] at e3
            obtain ⟨q1, q2⟩ := xC.1 p1
            obtain ⟨q3, q4⟩ := xC.1 p2
            obtain ⟨i, hi⟩ := Int.eq_ofNat_of_zero_le q1
            obtain ⟨j, hj⟩ := Int.eq_ofNat_of_zero_le q3
            have ei : s.lp.toNat = i := by omega
            have ej : s.rp.toNat = j := by omega
            rw [ei, ej] at e3
            have w1 : IntKind.i64.wrap (s.lp + s.rp) = ((i + j : Nat) : Int) := by rw [hi, hj, IntKind.wrap_i64]; omega
            have li : (a.take i).length ≤ 100000000 := by simp; omega
            have lj : (b.take j).length ≤ 100000000 := by simp; omega
            have m1 := (fv (a.take i) (b.take j) li lj).frozen (zq rfl)
            have m2 := (fv a b (by omega) (by omega)).frozen (zq rfl)
            have n2 := u7 a b
            have n1 := u7 (a.take i) (b.take j)
            have x1 := pd (mgV (a.take i) (b.take j)) s.out (by omega)
            rw [show xO (mgV (a.take i) (b.take j)) s.out = xO s.out (mgV (a.take i) (b.take j)) from by rw [Bool.eq_iff_iff, vK, vK]; exact eq_comm] at x1
            have x2 := pd s.out ((mgV a b).take (i + j)) (by omega)
            generalize mgV (a.take i) (b.take j) = M1 at m1 x1 e3 n1
            generalize mgV a b = M2 at m2 x2 e3 n2
            repeat' first | refine zK ?_ | refine zA ?_ | refine zL [] ?_ | (refine isA ?_; refine zf rfl ?_) | (refine isL ?_; refine zU rfl (by kernel_rfl) rfl rfl ?_) | (refine zb rfl ?_; refine zT rfl (by kernel_rfl) rfl rfl ?_) | (refine uA (x := .tmp 162) ?_; refine zc rfl (yg rfl rfl (congrArg I hi) (by omega)) rfl ?_) | (refine v9 (x := .tmp 162) rfl ?_; refine zX rfl (by kernel_rfl) rfl (yg rfl rfl (congrArg I hi) (by omega)) rfl ?_) | (refine uA (x := .tmp 170) ?_; refine zc rfl (yg rfl rfl (congrArg I hj) (by omega)) rfl ?_) | (refine v9 (x := .tmp 170) rfl ?_; refine zX rfl (by kernel_rfl) rfl (yg rfl rfl (congrArg I hj) (by omega)) rfl ?_) | (refine uA (x := .tmp 187) ?_; refine zc rfl (yg rfl rfl (congrArg I w1) (by omega)) rfl ?_) | (refine v9 (x := .tmp 187) rfl ?_; refine zX rfl (by kernel_rfl) rfl (yg rfl rfl (congrArg I w1) (by omega)) rfl ?_) | (refine yG (x := .tmp 159) ?_; refine zc rfl (z5 (t := rnT) (z := a) rfl rfl rfl rfl (Int.natCast_nonneg 0) ra) rfl ?_) | (refine yF (x := .tmp 159) rfl ?_; refine zX rfl (by kernel_rfl) rfl (z5 (t := rnT) (z := a) rfl rfl rfl rfl (Int.natCast_nonneg 0) ra) rfl ?_) | (refine yG (x := .tmp 167) ?_; refine zc rfl (z5 (t := rnT) (z := b) rfl rfl rfl rfl (Int.natCast_nonneg 1) rb) rfl ?_) | (refine yF (x := .tmp 167) rfl ?_; refine zX rfl (by kernel_rfl) rfl (z5 (t := rnT) (z := b) rfl rfl rfl rfl (Int.natCast_nonneg 1) rb) rfl ?_) | (refine yG (x := .tmp 178) ?_; refine zc rfl (z5 (t := rnT) (z := a) rfl rfl rfl rfl (Int.natCast_nonneg 0) ra) rfl ?_) | (refine yF (x := .tmp 178) rfl ?_; refine zX rfl (by kernel_rfl) rfl (z5 (t := rnT) (z := a) rfl rfl rfl rfl (Int.natCast_nonneg 0) ra) rfl ?_) | (refine yG (x := .tmp 183) ?_; refine zc rfl (z5 (t := rnT) (z := b) rfl rfl rfl rfl (Int.natCast_nonneg 1) rb) rfl ?_) | (refine yF (x := .tmp 183) rfl ?_; refine zX rfl (by kernel_rfl) rfl (z5 (t := rnT) (z := b) rfl rfl rfl rfl (Int.natCast_nonneg 1) rb) rfl ?_) | (refine zu 87 (x := #[.tmp 165, .tmp 173]) ?_; refine zc rfl (zQ rfl m1 (.cons (.same rfl) (.cons (.same rfl) .nil)) rfl) rfl ?_) | (refine zv 87 (x := #[.tmp 165, .tmp 173]) rfl ?_; refine zX rfl (by kernel_rfl) rfl (zQ rfl m1 (.cons (.same rfl) (.cons (.same rfl) .nil)) rfl) rfl ?_) | (refine zu 87 (x := #[.tmp 181, .tmp 186]) ?_; refine zc rfl (zQ rfl m2 (.cons (.same rfl) (.cons (.same rfl) .nil)) rfl) rfl ?_) | (refine zv 87 (x := #[.tmp 181, .tmp 186]) rfl ?_; refine zX rfl (by kernel_rfl) rfl (zQ rfl m2 (.cons (.same rfl) (.cons (.same rfl) .nil)) rfl) rfl ?_) | (refine zu 72 (x := #[.tmp 196, .tmp 198]) ?_; refine zc rfl (zQ rfl x1 (.cons (.same rfl) (.cons (.same rfl) .nil)) rfl) rfl ?_) | (refine zv 72 (x := #[.tmp 196, .tmp 198]) rfl ?_; refine zX rfl (by kernel_rfl) rfl (zQ rfl x1 (.cons (.same rfl) (.cons (.same rfl) .nil)) rfl) rfl ?_) | (refine zu 72 (x := #[.tmp 176, .tmp 193]) ?_; refine zc rfl (zQ rfl x2 (.cons (.same rfl) (.cons (.same rfl) .nil)) rfl) rfl ?_) | (refine zv 72 (x := #[.tmp 176, .tmp 193]) rfl ?_; refine zX rfl (by kernel_rfl) rfl (zQ rfl x2 (.cons (.same rfl) (.cons (.same rfl) .nil)) rfl) rfl ?_) | (refine zu 85 ?_; refine zc rfl (zQ rfl a5 (.cons (.same rfl) .nil) rfl) rfl ?_) | (refine zv 85 rfl ?_; refine zX rfl (by kernel_rfl) rfl (zQ rfl a5 (.cons (.same rfl) .nil) rfl) rfl ?_) | (refine zu 86 ?_; refine zc rfl (zQ rfl a6 (.cons (.same rfl) (.cons (.same rfl) .nil)) rfl) rfl ?_) | (refine zv 86 rfl ?_; refine zX rfl (by kernel_rfl) rfl (zQ rfl a6 (.cons (.same rfl) (.cons (.same rfl) .nil)) rfl) rfl ?_) | refine zD ?_ | refine zB _ rfl (by kernel_rfl) ?_ | refine zV rfl ?_ | refine zW rfl ?_ | refine zC ?_ | with_reducible refine zO ?_ | refine zH ?_ | refine zI ?_ | (with_reducible first | refine zM ?_ | refine zN ?_ | refine zE ?_ | refine zG ?_ | refine zF ?_) | refine zP ?_ | (refine wB ?_; refine yW rfl rfl (fun hbr => ?_) (fun hbr => ?_) <;> (fail_if_success (with_reducible (have hx : true = true := hbr))) <;> (fail_if_success (with_reducible (have hx : false = false := hbr)))) | (refine zb rfl ?_; refine yI rfl rfl rfl rfl (fun hbr => ?_) (fun hbr => ?_) <;> (fail_if_success (with_reducible (have hx : true = true := hbr))) <;> (fail_if_success (with_reducible (have hx : false = false := hbr))))
            all_goals exact yK rfl rfl (congrArg B (by rw [e3]; clear hi hj q1 q2 q3 q4; simp only [*, Bool.true_or, Bool.false_or, Bool.or_true, Bool.or_false, Bool.true_and, Bool.false_and, Bool.and_true, Bool.and_false, Bool.not_true, Bool.not_false, cond_true, cond_false]))
        · rw [h2, cond_false, vTail] at e3
          repeat' first | refine zK ?_ | refine zA ?_ | refine zL [] ?_ | (refine isA ?_; refine zf rfl ?_) | (refine isL ?_; refine zU rfl (by kernel_rfl) rfl rfl ?_) | (refine zb rfl ?_; refine zT rfl (by kernel_rfl) rfl rfl ?_) | (refine zu 85 ?_; refine zc rfl (zQ rfl a5 (.cons (.same rfl) .nil) rfl) rfl ?_) | (refine zv 85 rfl ?_; refine zX rfl (by kernel_rfl) rfl (zQ rfl a5 (.cons (.same rfl) .nil) rfl) rfl ?_) | (refine zu 86 ?_; refine zc rfl (zQ rfl a6 (.cons (.same rfl) (.cons (.same rfl) .nil)) rfl) rfl ?_) | (refine zv 86 rfl ?_; refine zX rfl (by kernel_rfl) rfl (zQ rfl a6 (.cons (.same rfl) (.cons (.same rfl) .nil)) rfl) rfl ?_) | refine zD ?_ | refine zB _ rfl (by kernel_rfl) ?_ | refine zV rfl ?_ | refine zW rfl ?_ | refine zC ?_ | with_reducible refine zO ?_ | refine zH ?_ | refine zI ?_ | (with_reducible first | refine zM ?_ | refine zN ?_ | refine zE ?_ | refine zG ?_ | refine zF ?_) | refine zP ?_ | (refine wB ?_; refine yW rfl rfl (fun hbr => ?_) (fun hbr => ?_) <;> (fail_if_success (with_reducible (have hx : true = true := hbr))) <;> (fail_if_success (with_reducible (have hx : false = false := hbr)))) | (refine zb rfl ?_; refine yI rfl rfl rfl rfl (fun hbr => ?_) (fun hbr => ?_) <;> (fail_if_success (with_reducible (have hx : true = true := hbr))) <;> (fail_if_success (with_reducible (have hx : false = false := hbr))))
          all_goals first
            | exact yK rfl rfl (congrArg B (by rw [e3]; simp only [*, Bool.true_or, Bool.false_or, Bool.or_true, Bool.or_false, Bool.true_and, Bool.false_and, Bool.and_true, Bool.and_false, Bool.not_true, Bool.not_false, cond_true, cond_false]))
            | skip
          refine zd rfl (fun q => ?_) (fun q => ?_)
          · repeat' first | refine zK ?_ | refine zA ?_ | refine zL [] ?_ | (refine isA ?_; refine zf rfl ?_) | (refine isL ?_; refine zU rfl (by kernel_rfl) rfl rfl ?_) | (refine zb rfl ?_; refine zT rfl (by kernel_rfl) rfl rfl ?_) | exact yK rfl rfl (congrArg B (by rw [e3]; simp only [Bool.not_eq_true'] at q; rw [q, Bool.false_and])) | refine zD ?_ | refine zB _ rfl (by kernel_rfl) ?_ | refine zV rfl ?_ | refine zW rfl ?_ | refine zC ?_ | with_reducible refine zO ?_ | refine zH ?_ | refine zI ?_ | (with_reducible first | refine zM ?_ | refine zN ?_ | refine zE ?_ | refine zG ?_ | refine zF ?_) | refine zP ?_
          have q2 : eqB s.runs.flatten s.input = true := by simpa using q
          have w1 : IntKind.i64.wrap ((s.input.length : Int) - 1) = (s.input.length : Int) - 1 := by rw [IntKind.wrap_i64]; omega
          rw [q2, ← w1] at e3
          repeat' first | refine zK ?_ | refine zA ?_ | refine zL [] ?_ | (refine isA ?_; refine zf rfl ?_) | (refine isL ?_; refine zU rfl (by kernel_rfl) rfl rfl ?_) | (refine zb rfl ?_; refine zT rfl (by kernel_rfl) rfl rfl ?_) | refine zD ?_ | refine zB _ rfl (by kernel_rfl) ?_ | refine zV rfl ?_ | refine zW rfl ?_ | refine zC ?_ | with_reducible refine zO ?_ | refine zH ?_ | refine zI ?_ | (with_reducible first | refine zM ?_ | refine zN ?_ | refine zE ?_ | refine zG ?_ | refine zF ?_) | refine zP ?_
          refine zd rfl (fun h3 => ?_) (fun h3 => ?_)
          · rw [h3, cond_true] at e3
            repeat' first | refine zK ?_ | refine zA ?_ | refine zL [] ?_ | (refine isA ?_; refine zf rfl ?_) | (refine isL ?_; refine zU rfl (by kernel_rfl) rfl rfl ?_) | (refine zb rfl ?_; refine zT rfl (by kernel_rfl) rfl rfl ?_) | (refine zu 66 ?_; refine zc rfl (zQ rfl (vT _ _ _) (.cons (.same rfl) (.cons (.same rfl) (.cons (.same rfl) .nil))) rfl) rfl ?_) | (refine zv 66 rfl ?_; refine zX rfl (by kernel_rfl) rfl (zQ rfl (vT _ _ _) (.cons (.same rfl) (.cons (.same rfl) (.cons (.same rfl) .nil))) rfl) rfl ?_) | refine zD ?_ | refine zB _ rfl (by kernel_rfl) ?_ | refine zV rfl ?_ | refine zW rfl ?_ | refine zC ?_ | with_reducible refine zO ?_ | refine zH ?_ | refine zI ?_ | (with_reducible first | refine zM ?_ | refine zN ?_ | refine zE ?_ | refine zG ?_ | refine zF ?_) | refine zP ?_ | (refine wB ?_; refine yW rfl rfl (fun hbr => ?_) (fun hbr => ?_) <;> (fail_if_success (with_reducible (have hx : true = true := hbr))) <;> (fail_if_success (with_reducible (have hx : false = false := hbr)))) | (refine zb rfl ?_; refine yI rfl rfl rfl rfl (fun hbr => ?_) (fun hbr => ?_) <;> (fail_if_success (with_reducible (have hx : true = true := hbr))) <;> (fail_if_success (with_reducible (have hx : false = false := hbr))))
            all_goals exact yK rfl rfl (congrArg B (by rw [e3]; clear w1; simp only [*, Bool.true_or, Bool.false_or, Bool.or_true, Bool.or_false, Bool.true_and, Bool.false_and, Bool.and_true, Bool.and_false, Bool.not_true, Bool.not_false, cond_true, cond_false]))
          · rw [h3, cond_false] at e3
            repeat' first | refine zK ?_ | refine zA ?_ | refine zL [] ?_ | (refine isA ?_; refine zf rfl ?_) | (refine isL ?_; refine zU rfl (by kernel_rfl) rfl rfl ?_) | (refine zb rfl ?_; refine zT rfl (by kernel_rfl) rfl rfl ?_) | refine zD ?_ | refine zB _ rfl (by kernel_rfl) ?_ | refine zV rfl ?_ | refine zW rfl ?_ | refine zC ?_ | with_reducible refine zO ?_ | refine zH ?_ | refine zI ?_ | (with_reducible first | refine zM ?_ | refine zN ?_ | refine zE ?_ | refine zG ?_ | refine zF ?_) | refine zP ?_ | (refine wB ?_; refine yW rfl rfl (fun hbr => ?_) (fun hbr => ?_) <;> (fail_if_success (with_reducible (have hx : true = true := hbr))) <;> (fail_if_success (with_reducible (have hx : false = false := hbr)))) | (refine zb rfl ?_; refine yI rfl rfl rfl rfl (fun hbr => ?_) (fun hbr => ?_) <;> (fail_if_success (with_reducible (have hx : true = true := hbr))) <;> (fail_if_success (with_reducible (have hx : false = false := hbr))))
            all_goals exact yK rfl rfl (congrArg B (by rw [e3]; clear w1; simp only [*, Bool.true_or, Bool.false_or, Bool.or_true, Bool.or_false, Bool.true_and, Bool.false_and, Bool.and_true, Bool.and_false, Bool.not_true, Bool.not_false, cond_true, cond_false]))
end Go.Proofs.Ytojcojanokhnaaa.Ab
namespace Go.Proofs.Ytojcojanokhnaaa.Ab
open Go.RowKit
def rmV (s : So) : Int := cond (vS s) (remV s) 0
end Go.Proofs.Ytojcojanokhnaaa.Ab
namespace Go.Proofs.Ytojcojanokhnaaa.Ab
open Go.RowKit
section
variable {P : Program}
def xY (r : Reg) : Reg := { r with mode := 2 }
theorem zy.frozenK {f : FuncId} {cargs : List V} {Rs Rs' K : List Reg} {r r' : V} {al : Bool} (h : zy P f cargs Rs r (Rs' ++ K) al) (hl : Rs'.length = Rs.length) (hN : ∀ q ∈ Rs', NoH q.cells)
    (hm : ∀ (i : Nat) (R R' : Reg), Rs[i]? = some R → Rs'[i]? = some R' → R.mode = 0 → R'.mode = 0) (hp : Pur true (Rs'.map xY ++ K) r r') : zy P f cargs Rs r' Rs' true := by
  intro A φ w xs hok hrel hsz
  refine (h A φ w xs hok hrel hsz).mono ?_
  rintro e w' ⟨x, φ', A', rfl, k1, k2, k3, k4, k5, k6⟩
  have hlen : φ'.length = Rs'.length + K.length := by rw [k1.len, List.length_append]
  have hφl : φ.length = Rs'.length := by rw [hok.len, hl]
  have hget : ∀ (i : Nat) (q : Reg), (Rs'.map xY ++ K)[i]? = some q → q.mode ≤ 1 → Rs'.length ≤ i ∧ (Rs' ++ K)[i]? = some q := fun i q hq hm1 => by
    rcases Nat.lt_or_ge i Rs'.length with hlt | hge
    · rw [List.getElem?_append_left (by simpa using hlt), List.getElem?_map] at hq
      obtain ⟨z, hz⟩ : ∃ z, Rs'[i]? = some z := ⟨_, List.getElem?_eq_getElem hlt⟩
      rw [hz] at hq
      simp only [Option.map_some, Option.some.injEq] at hq
      subst hq
      exact absurd (show (2 : Nat) ≤ 1 from hm1) (by decide)
    · refine ⟨hge, ?_⟩
      rw [List.getElem?_append_right (by simpa using hge), List.length_map] at hq
      rw [List.getElem?_append_right hge]
      exact hq
  have hlive2 : ∀ i b, zz φ' (Rs'.map xY ++ K) i b → Rs'.length ≤ i ∧ zz φ' (Rs' ++ K) i b := fun i b ⟨hd, q, q1, q2, q3, q4⟩ =>
    have := hget i q q2 (by omega)
    ⟨this.1, hd, q, q1, this.2, q3, q4⟩
  have kd : HeapOk A' w' φ' (Rs'.map xY ++ K) := ⟨by rw [hlen]; simp, fun i hd q q1 q2 q3 => k1.regs i hd q q1 (hget i q q2 q3).2 q3, fun i j b q1 q2 => k1.inj i j b (hlive2 i b q1).2 (hlive2 j b q2).2, fun i b q1 => k1.apart i b (hlive2 i b q1).2, fun i hd q b q1 q2 q3 q4 => k1.frz i hd q b q1 (hget i q q2 (by omega)).2 q3 q4, k1.low⟩
  have hT : ∀ (i : Nat) (hd : Hd), (φ'.take Rs'.length)[i]? = some hd → i < Rs'.length ∧ φ'[i]? = some hd := fun i hd hi => by
    have hlt : i < (φ'.take Rs'.length).length := (List.getElem?_eq_some_iff.1 hi).1
    rw [List.length_take] at hlt
    rw [List.getElem?_take_of_lt (by omega)] at hi
    exact ⟨by omega, hi⟩
  have hL : ∀ i b, zz (φ'.take Rs'.length) Rs' i b → i < Rs'.length ∧ zz φ' (Rs' ++ K) i b := fun i b ⟨hd, q, q1, q2, q3, q4⟩ =>
    have := hT i hd q1
    ⟨this.1, hd, q, this.2, by rw [List.getElem?_append_left this.1]; exact q2, q3, q4⟩
  have hmono : ∀ b, A' b → (A' b ∨ ∃ i, zz φ' (Rs'.map xY ++ K) i b) ∧ w'.heap[b]? = w'.heap[b]? := fun b hb => ⟨Or.inl hb, rfl⟩
  refine ⟨x, φ'.take Rs'.length, fun b => A' b ∨ ∃ i, zz φ' (Rs'.map xY ++ K) i b, rfl, ⟨by rw [List.length_take]; omega, fun i hd q q1 q2 q3 => ?_, fun i j b q1 q2 => k1.inj i j b (hL i b q1).2 (hL j b q2).2, fun i b q1 hb => ?_, fun i hd q b q1 q2 q3 q4 => ?_, fun b hb => ?_⟩, ?_, fun b hb => ?_, fun i b q1 => k4 i b (hL i b q1).2, k5, fun i hd q1 => ?_⟩
  · obtain ⟨t1, t2⟩ := hT i hd q1
    have := k1.regs i hd q t2 (by rw [List.getElem?_append_left t1]; exact q2) q3
    obtain ⟨e1, e2⟩ := this
    refine ⟨e1, ?_⟩
    cases hk : hd.blk with
    | none => rw [hk] at e2; exact e2
    | some b =>
      rw [hk] at e2
      obtain ⟨c, f1, f2, f3, f4⟩ := e2
      exact ⟨c, f1, f2, f3, zx.mono hmono (fun _ _ h => h) (xd (hN q (List.mem_of_getElem? q2)) f4)⟩
  · rcases hb with hb | ⟨j, hb⟩
    · exact k1.apart i b (hL i b q1).2 hb
    · obtain ⟨g1, g2⟩ := hlive2 j b hb
      have := k1.inj i j b (hL i b q1).2 g2
      have := (hL i b q1).1
      omega
  · obtain ⟨t1, t2⟩ := hT i hd q1
    exact Or.inl (k1.frz i hd q b t2 (by rw [List.getElem?_append_left t1]; exact q2) q3 q4)
  · rcases hb with hb | ⟨j, hb⟩
    · exact k1.low b hb
    · obtain ⟨g1, hd, q, g2, g3, g4, g5⟩ := hlive2 j b hb
      exact xi k1 g2 g3 (by omega) g5
  · exact Rel.mono (fun b hb => ⟨hb, rfl⟩) (fun j hd hj => by simp at hj) (Pur.rel kd (fun b hb => Or.inl hb) (fun _ j b hb => Or.inr ⟨j, hb⟩) hp k2)
  · rcases hb with hb | ⟨j, hb⟩
    · exact (k3 b hb).imp (fun h => ⟨rfl, h.2⟩) id
    · obtain ⟨g1, g2⟩ := hlive2 j b hb
      rcases k4 j b g2 with h1 | ⟨h0, hd, q, p1, p2, p3, p4⟩
      · exact Or.inr h1
      · exfalso
        have hlt : h0 < Rs'.length := by have := (List.getElem?_eq_some_iff.1 p1).1; omega
        obtain ⟨z, hz⟩ : ∃ z, Rs'[h0]? = some z := ⟨_, List.getElem?_eq_getElem hlt⟩
        have hz0 := hm h0 q z p2 hz p3
        have := k1.inj j h0 b g2 ⟨hd, z, k6 h0 hd p1, by rw [List.getElem?_append_left hlt]; exact hz, hz0, p4⟩
        omega
  · have hlt : i < Rs'.length := by have := (List.getElem?_eq_some_iff.1 q1).1; omega
    rw [List.getElem?_take_of_lt hlt]
    exact k6 i hd q1
end
theorem uu {P : Program} (id : Nat) {ops : Array Oper} {b : Bool} {y : Code} {Q : Exit → St → Prop} {S : St} (T : St) (h : AW P (.region id ops b) (fun e S' => e = .normal ∧ Sub T S') S) (k : AW P y Q T) : AW P (.seq (.region id ops b) y) Q S :=
  zK ⟨fun C φ a w hI => wp_mono (h.out C φ a w hI) fun e a' w' hq => by
    obtain ⟨S', φ1, hI', he, hs⟩ := hq
    subst he
    obtain ⟨φ2, h2⟩ := hs C φ1 a' w' hI'
    exact ⟨T, φ2, h2, k⟩⟩
@[irreducible] def Hold (p : Prop) : Prop := p
theorem xt {p : Prop} (h : Hold p) : p := by unfold Hold at h; exact h
theorem we {p : Prop} (h : p) : Hold p := by unfold Hold; exact h
end Go.Proofs.Ytojcojanokhnaaa.Ab
namespace Go.Proofs.Ytojcojanokhnaaa.Ab
open Go.RowKit
theorem nK {P : Program} (id : Nat) {ops : Array Oper} {b : Bool} {c y : Code} {Q : Exit → St → Prop} {S : St} (T0 T : St) (hs : Sub T0 S) (h : AW P (.seq (.region id ops b) c) (fun e S' => e = .normal ∧ Sub T S') T0) (k : AW P y Q T) : AW P (.seq (.seq (.region id ops b) c) y) Q S :=
  xW id T (vu hs h) k
theorem go {l : List V} {H : List Reg} {al : Bool} {t : Tmp} {us : List Tmp} {n : Nat} {v r : V} {K : List Reg} (ψ : List Nat) (hv : CellIs l H t n v) (hr : Le ψ r (.tup (v :: us.map fun u => (l[u]?).getD .any))) (hH : HLe ψ K H) (hal : al = true ∨ (sR r = true ∧ ∀ q ∈ K, q.mode ≠ 1 ∧ (q.mode = 0 → uM q.cells))) :
    (Exit.ret = .ret ∨ Exit.ret = .normal) ∧ ∃ v, CellIs l H t n v ∧ Out al r K (.tup (v :: us.map fun u => (l[u]?).getD .any)) ⟨l, H, 0⟩ := ⟨Or.inl rfl, v, hv, qU (S := ⟨l, H, 0⟩) ψ (fun i hi => absurd hi (Nat.not_lt_zero _)) hH hr hal⟩
def nX (ix : List Nat) (rs : List Rn) : List V := List.zipWith (fun i x => V.sl i 0 x.length) ix rs
theorem ff : ∀ (b : Nat) (rs : List Rn), nC b rs = nX (List.range' b rs.length) rs
  | _, [] => rfl
  | b, x :: rs => by
    show V.sl b 0 x.length :: nC (b + 1) rs = _
    rw [ff (b + 1) rs]
    rfl
theorem eJ {ix jx : List Nat} {rs ss : List Rn} (h : ix.length = rs.length) : nX (ix ++ jx) (rs ++ ss) = nX ix rs ++ nX jx ss := by
  unfold nX
  exact List.zipWith_append h
theorem kH {ψ : List Nat} : ∀ {b : Nat} {ix : List Nat} {rs : List Rn}, ix.length = rs.length → (∀ j, j < rs.length → ψ[b + j]? = ix[j]?) → Les ψ (nC b rs) (nX ix rs)
  | b, ix, [], hl, h => by
    rw [List.eq_nil_of_length_eq_zero hl]
    exact zg
  | b, [], x :: rs, hl, h => by simp at hl
  | b, i :: ix, x :: rs, hl, h => by
    refine zZ (zj (by have := h 0 (by simp); simpa using this) rfl) (kH (by simpa using hl) fun j hj => ?_)
    have := h (j + 1) (by simp; omega)
    rw [show b + 1 + j = b + (j + 1) by omega]
    simpa using this
theorem my {H : List Reg} {hs ix : List Nat} {K1 : List Reg} {rs : List Rn} (hl : ix.length = rs.length) (hn : (hs ++ ix).Nodup) (h1 : HLes (hs ++ ix) H hs K1) (h2 : ∀ (j i : Nat) (x : Rn), ix[j]? = some i → rs[j]? = some x → H[i]? = some (rwR x)) :
    HLe (hs ++ ix) (K1 ++ nR rwT 78 rs) H := by
  obtain ⟨e1, e2⟩ := h1.get
  refine ⟨by simp [e1, nR, hl], hn, fun i h hi => ?_⟩
  rcases Nat.lt_or_ge i hs.length with hlt | hge
  · rw [List.getElem?_append_left hlt] at hi
    obtain ⟨r, r', q1, q2, q3⟩ := e2 i h hi
    exact ⟨r, r', zh q1, q2, q3⟩
  · rw [List.getElem?_append_right hge] at hi
    have hlt := (List.getElem?_eq_some_iff.1 hi).1
    obtain ⟨x, hx⟩ : ∃ z, rs[i - hs.length]? = some z := ⟨_, List.getElem?_eq_getElem (by omega)⟩
    refine ⟨rwR x, rwR x, ?_, h2 _ _ _ hi hx, fun _ => ⟨rfl, rfl, rfl, zY (zJ _ _)⟩⟩
    rw [List.getElem?_append_right (by omega), ← e1]
    exact xX hx
theorem eH (hs ix : List Nat) (j : Nat) : (hs ++ ix)[hs.length + j]? = ix[j]? := by
  rw [List.getElem?_append_right (Nat.le_add_right _ _), Nat.add_sub_cancel_left]
theorem lr (b n : Nat) (s : So) : (soR b s).map (shR n) = soR (b + n) s := by
  have h : ∀ xs : List Rw, shR n (rwR xs) = rwR xs := fun xs => by
    show ({ rwR xs with cells := vZ n (rwT.flat xs) } : Reg) = rwR xs
    rw [yC n (yP (zJ rwT xs))]
  rw [List.map_cons, List.map_cons, List.map_cons, List.map_cons, List.map_cons, h, h, h, h, fe]
  simp only [shR, qN, Nat.add_right_comm b 5 n]
theorem ls (b n : Nat) (s : So) : shV n (.agg (soO b s)) = .agg (soO (b + n) s) := by
  simp only [shV, vZ, Nat.add_right_comm]
abbrev zS : List V := [wq, I 0, wq, wq, wq, wq, I 0, I 0, I 0, I 0]
abbrev bxS (cs : List V) : Reg := ⟨27, 10, cs, 0⟩
abbrev stH (s t : So) (r : List Rw) : List Reg := bxS (soE s) :: bxS zS :: bxS (soO 4 t) :: rwR r :: soR 4 t
theorem tJ (g : Int) : zy Go.Proofs.Try.prog 57 [I g] [] (B (inV g 8 60)) [] false := by
  refine zw [2] Go.Proofs.Try.func57 rfl rfl ?_
  simp only [Go.Proofs.Try.ntmps57, List.length_cons, List.length_nil, Nat.reduceAdd, Nat.reduceSub, List.replicate_succ, List.replicate_zero, List.cons_append, List.nil_append]
  repeat' first | refine zK ?_ | refine zA ?_ | refine zL [] ?_ | (refine isA ?_; refine zf rfl ?_) | (refine isL ?_; refine zU rfl (by kernel_rfl) rfl rfl ?_) | (refine zb rfl ?_; refine zT rfl (by kernel_rfl) rfl rfl ?_) | (refine zu 75 ?_; refine zc rfl (zQ rfl (xe g 8 60) (.cons (.same rfl) (.cons (.same rfl) (.cons (.same rfl) .nil))) rfl) rfl ?_) | (refine zv 75 rfl ?_; refine zX rfl (by kernel_rfl) rfl (zQ rfl (xe g 8 60) (.cons (.same rfl) (.cons (.same rfl) (.cons (.same rfl) .nil))) rfl) rfl ?_) | exact yK rfl rfl rfl | refine zD ?_ | refine zB _ rfl (by kernel_rfl) ?_ | refine zV rfl ?_ | refine zW rfl ?_ | refine zC ?_ | with_reducible refine zO ?_ | refine zH ?_ | refine zI ?_ | (with_reducible first | refine zM ?_ | refine zN ?_ | refine zE ?_ | refine zG ?_ | refine zF ?_) | refine zP ?_
abbrev stL (s : So) (g : Int) (n : Nat) : List V := (.any :: (I g) :: (.ptr 0 0) :: .any :: (.ptr 1 0) :: .any :: .any :: (.ptr 2 0) :: (.sl 3 0 n) :: .any :: .any :: .any :: .any :: .any :: .any :: .any :: .any :: .any :: .any :: .any :: .any :: .any :: .any :: .any :: .any :: .any :: .any :: .any :: .any :: .any :: .any :: .any :: .any :: .any :: .any :: .any :: .any :: .any :: .any :: .any :: .any :: .any :: .any :: .any :: .any :: .any :: .any :: .any :: .any :: .any :: .any :: .any :: .any :: .any :: .any :: .any :: .any :: .any :: .any :: .any :: .any :: .any :: .any :: .any :: .any :: .any :: .any :: .any :: .any :: .any :: .any :: .any :: .any :: .any :: .any :: .any :: .any :: .any :: .any :: .any :: .any :: .any :: .any :: .any :: .any :: .any :: .any :: .any :: .any :: .any :: .any :: .any :: .any :: .any :: .any :: .any :: .any :: .any :: .any :: .any :: .any :: .any :: .any :: .any :: .any :: .any :: .any :: .any :: .any :: .any :: .any :: .any :: .any :: .any :: .any :: .any :: .any :: .any :: .any :: .any :: .any :: .any :: .any :: .any :: .any :: .any :: .any :: .any :: .any :: .any :: .any :: .any :: .any :: .any :: .any :: .any :: .any :: .any :: .any :: .any :: .any :: .any :: .any :: .any :: .any :: .any :: .any :: .any :: .any :: .any :: .any :: .any :: .any :: .any :: .any :: .any :: .any :: .any :: .any :: .any :: .any :: .any :: .any :: .any :: .any :: .any :: .any :: .any :: .any :: .any :: .any :: .any :: .any :: .any :: .any :: .any :: .any :: .any :: .any :: .any :: .any :: .any :: .any :: .any :: .any :: .any :: .any :: .any :: .any :: .any :: .any :: .any :: .any :: .any :: .any :: .any :: .any :: .any :: .any :: .any :: .any :: .any :: .any :: .any :: .any :: .any :: .any :: .any :: .any :: .any :: .any :: .any :: .any :: .any :: .any :: .any :: .any :: .any :: .any :: .any :: .any :: .any :: .any :: .any :: .any :: .any :: .any :: .any :: .any :: .any :: .any :: .any :: .any :: .any :: .any :: .any :: .any :: .any :: .any :: .any :: .any :: .any :: .any :: .any :: .any :: .any :: .any :: .any :: .any :: [])
abbrev stT (s t : So) (g : Int) (r : List Rw) : St := ⟨stL s g r.length, stH s t r, 0⟩
noncomputable def pH : Code := match (Go.Proofs.Try.f13).body with
  | some (.seq _ (.seq _ (.seq _ (.seq _ (.seq m _))))) => m
  | _ => .skip
theorem tC {a0 a1 a2 a3 a4 a5 a6 a7 a8 x : Reg} {L : List Reg} {j : Nat} (h : L[j]? = some x) : (a0 :: a1 :: a2 :: a3 :: a4 :: a5 :: a6 :: a7 :: a8 :: L)[9 + j]? = some x := by
  rw [Nat.add_comm]; exact h
theorem sB {H : List Reg} {s : So} {h1 h2 h3 h4 h5 b : Nat} (e1 : H[h1]? = some (rwR s.input)) (e2 : H[h2]? = some (rwR s.heap)) (e3 : H[h3]? = some (rwR s.dfr)) (e4 : H[h4]? = some (rwR s.out)) (e5 : H[h5]? = some ⟨84, 1, nC b s.runs, 0⟩) (e6 : ∀ j x, s.runs[j]? = some x → H[b + j]? = some (rwR x)) :
    Pur true H (.agg [.sl h1 0 s.input.length, I s.pos, .sl h2 0 s.heap.length, .sl h3 0 s.dfr.length, .sl h4 0 s.out.length, .sl h5 0 s.runs.length, I s.lp, I s.rp, I s.ph, I s.wr]) (.agg (soE s)) :=
  .agg (.cons (zq e1) (.cons (.same rfl) (.cons (zq e2) (.cons (zq e3) (.cons (zq e4) (.cons (pD e5 e6) (.cons (.same rfl) (.cons (.same rfl) (.cons (.same rfl) (.cons (.same rfl) .nil))))))))))
theorem yO {a0 a1 a2 a3 a4 a5 a6 a7 a8 x : Reg} {L : List Reg} {j : Nat} (h : L[j]? = some x) : (a0 :: a1 :: a2 :: a3 :: a4 :: a5 :: a6 :: a7 :: a8 :: L)[j + 9]? = some x := h
theorem qQ {cs vs : List V} (h : vs.length = cs.length) : yt cs 0 vs = vs := by
  unfold yt
  rw [List.take_zero, List.nil_append, Nat.zero_add, h, List.drop_length, List.append_nil]
theorem uz {P : Program} {o : Oper} {ρ : Operand → V} {L : List Reg} {N : Reg} {h t n : Nat} {x y : Operand} {vs : List V} [ht : Ag P t n] (ho : o.op = .store t x y) (hx : ρ x = .ptr h 0) (hL : L.length = h) (hy : ρ y = .agg vs) (hn : vs.length = n) (h1 : ∀ c ∈ vs, v8 c = true) (hm : N.mode = 0) (hc : N.cells.length = n) : z7 P o ρ (L ++ [N]) (.k undef) (L ++ [{ N with cells := vs }]) := by
  have := xj (P := P) (o := o) (ρ := ρ) (H := L ++ [N]) ho hx hy hn h1 (zp hL) hm (by omega)
  rw [t6 hL, qQ (by omega)] at this
  exact this
theorem w9 {P : Program} {o : Oper} {ρ : Operand → V} {H : List Reg} {N : Reg} {h t n : Nat} {x : Operand} [ht : Ag P t n] (ho : o.op = .load t x) (hx : ρ x = .ptr h 0) (hH : H[h]? = some N) (hm : Nat.ble N.mode 1 = true) (hc : N.cells.length = n) : z7 P o ρ H (.agg N.cells) H := by
  have := xu (P := P) (o := o) (n := n) (ρ := ρ) (H := H) ho hx hH (Nat.le_of_ble_eq_true hm) (by omega : 0 + n ≤ N.cells.length)
  rw [List.drop_zero, List.take_of_length_le (by omega)] at this
  exact this
theorem vy (r : Rw) : ∀ c ∈ rwE r, v8 c = true := fun c hc => by
  simp only [rwE, List.mem_cons, List.not_mem_nil, or_false] at hc
  rcases hc with rfl | rfl | rfl <;> rfl
theorem vN {s t : So} {r : List Rw} {l lT : List V} {H : List Reg} (hs ix : List Nat) (hl9 : hs.length = 9) (hl : ix.length = t.runs.length) (hn : (hs ++ ix).Nodup)
    (h1 : HLes (hs ++ ix) H hs [bxS (soE s), bxS zS, bxS (soO 4 t), rwR r, rwR t.input, rwR t.heap, rwR t.dfr, rwR t.out, ⟨84, 1, nC 9 t.runs, 0⟩]) (h2 : ∀ (j i : Nat) (x : Rn), ix[j]? = some i → t.runs[j]? = some x → H[i]? = some (rwR x))
    (ht : Les (hs ++ ix) lT l) : Sub ⟨lT, stH s t r, 0⟩ ⟨l, H, 0⟩ := by
  have := my hl hn h1 h2
  exact qH (T := ⟨lT, stH s t r, 0⟩) (S := ⟨l, H, 0⟩) (hs ++ ix) rfl (fun i hi => absurd hi (Nat.not_lt_zero _)) this ht
theorem wC {rs : List Rn} {e : TypeId} : (nR rwT e rs).length = rs.length := by simp [zm]
theorem xn {rs : List Rn} {e : TypeId} {N : Reg} : (nR rwT e rs ++ [N]).length = rs.length + 1 := by simp [zm]
theorem xm {rs : List Rn} {e : TypeId} {N M : Reg} : (nR rwT e rs ++ [N] ++ [M]).length = rs.length + 2 := by simp [zm]
theorem x4 {rs : List Rn} {e : TypeId} {N M O : Reg} : (nR rwT e rs ++ [N] ++ [M] ++ [O]).length = rs.length + 3 := by simp [zm]
theorem ix9 {n j i : Nat} (h : (List.range' 9 n)[j]? = some i) : i = 9 + j := by
  rw [List.getElem?_range'] at h
  · have := Option.some.inj h; omega
  · exact Nat.lt_of_not_le fun hn => by rw [List.getElem?_eq_none (by simpa using hn)] at h; cases h
def stQ (s x : So) (g : Int) (r : List Rw) : Exit → St → Prop := fun e S' => e = .normal ∧ Sub (stT s x g r) S'
end Go.Proofs.Ytojcojanokhnaaa.Ab
namespace Go.Proofs.Ytojcojanokhnaaa.Ab
open Go.RowKit
theorem qW {s : So} {r : Rw} (h : yv s ≤ 60) : IntKind.i64.wrap (yv s + yx r) = yv s + yx r := by
  have h1 := eL s
  have h2 := wY r
  rw [IntKind.wrap_i64]; omega
theorem c_put (s : So) (g : Int) (r : Rw) (hok : okSo s) (hb : VBa s) (hm : yv s ≤ 60) (hp : s.ph = 1) (hr : s.input[s.pos.toNat]? = some r) (hf : yv s + yx r ≤ g) : AW Go.Proofs.Try.prog pH (stQ s (wc s r) g []) (stT s s g []) := by
  obtain ⟨p, hpp, hple⟩ := hb.pos
  have e1 : s.pos.toNat = p := by omega
  rw [e1] at hr
  have hlt := (List.getElem?_eq_some_iff.1 hr).1
  have g1 := hok.heap
  have g2 := hok.dfr
  have g3 := hok.input
  have am := tK s hok
  have ew : IntKind.i64.wrap (s.pos + 1) = s.pos + 1 := by rw [IntKind.wrap_i64]; omega
  have cb := qj r s.out (by have := hok.out; omega)
  repeat' first | (refine zd rfl (fun _ => ?_) (fun h => absurd hp (of_decide_eq_false h))) | refine zK ?_ | refine zA ?_ | refine zL [] ?_ | (refine isA ?_; refine zf rfl ?_) | (refine isL ?_; refine zU rfl (by kernel_rfl) rfl rfl ?_) | (refine zb rfl ?_; refine zT rfl (by kernel_rfl) rfl rfl ?_) | refine zD ?_ | refine zB _ rfl (by kernel_rfl) ?_ | refine zV rfl ?_ | refine zW rfl ?_ | refine zC ?_ | with_reducible refine zO ?_ | refine zH ?_ | refine zI ?_ | (with_reducible first | refine zM ?_ | refine zN ?_ | refine zE ?_ | refine zG ?_ | refine zF ?_) | refine zP ?_
  refine yI rfl rfl rfl rfl (fun _ => ?_) (fun h => absurd (of_decide_eq_false h) (by omega))
  repeat' first | refine zK ?_ | refine zA ?_ | refine zL [] ?_ | (refine isA ?_; refine zf rfl ?_) | (refine isL ?_; refine zU rfl (by kernel_rfl) rfl rfl ?_) | (refine zb rfl ?_; refine zT rfl (by kernel_rfl) rfl rfl ?_) | (refine zu 19 ?_; refine zc rfl (zQ rfl am (.cons (sB rfl rfl rfl rfl rfl fun j x hx => tC (xX hx)) .nil) rfl) rfl ?_) | (refine zv 19 rfl ?_; refine zX rfl (by kernel_rfl) rfl (zQ rfl am (.cons (sB rfl rfl rfl rfl rfl fun j x hx => tC (xX hx)) .nil) rfl) rfl ?_) | (refine yG (x := .tmp 53) ?_; refine zc rfl (z4 (j := s.pos) rfl rfl rfl (Nat.zero_le _) rfl rfl (by omega) (by omega)) rfl ?_) | (refine yF (x := .tmp 53) rfl ?_; refine zX rfl (by kernel_rfl) rfl (z4 (j := s.pos) rfl rfl rfl (Nat.zero_le _) rfl rfl (by omega) (by omega)) rfl ?_) | (refine wT (x := .tmp 56) ?_; refine zc rfl (xF (T := rwT) (i := 0 + s.pos.toNat) (z := r) rfl rfl rfl (by rw [Nat.zero_add, e1]; exact hr)) rfl ?_) | (refine wW (x := .tmp 56) rfl ?_; refine zX rfl (by kernel_rfl) rfl (xF (T := rwT) (i := 0 + s.pos.toNat) (z := r) rfl rfl rfl (by rw [Nat.zero_add, e1]; exact hr)) rfl ?_) | (refine zu 58 ?_; refine zc rfl (zQ rfl (vY r) (.cons (.same rfl) .nil) rfl) rfl ?_) | (refine zv 58 rfl ?_; refine zX rfl (by kernel_rfl) rfl (zQ rfl (vY r) (.cons (.same rfl) .nil) rfl) rfl ?_) | refine zD ?_ | refine zB _ rfl (by kernel_rfl) ?_ | refine zV rfl ?_ | refine zW rfl ?_ | refine zC ?_ | with_reducible refine zO ?_ | refine zH ?_ | refine zI ?_ | (with_reducible first | refine zM ?_ | refine zN ?_ | refine zE ?_ | refine zG ?_ | refine zF ?_) | refine zP ?_
  refine zd rfl (fun _ => ?_) (fun h => absurd (of_decide_eq_false h) (by rw [qW hm]; omega))
  repeat' first | refine zK ?_ | refine zA ?_ | refine zL [] ?_ | (refine isA ?_; refine zf rfl ?_) | (refine isL ?_; refine zU rfl (by kernel_rfl) rfl rfl ?_) | (refine zb rfl ?_; refine zT rfl (by kernel_rfl) rfl rfl ?_) | (refine yG (x := .tmp 64) ?_; refine zc rfl (z4 (j := s.pos) rfl rfl rfl (Nat.zero_le _) rfl rfl (by omega) (by omega)) rfl ?_) | (refine yF (x := .tmp 64) rfl ?_; refine zX rfl (by kernel_rfl) rfl (z4 (j := s.pos) rfl rfl rfl (Nat.zero_le _) rfl rfl (by omega) (by omega)) rfl ?_) | (refine wT (x := .tmp 67) ?_; refine zc rfl (xF (T := rwT) (i := 0 + s.pos.toNat) (z := r) rfl rfl rfl (by rw [Nat.zero_add, e1]; exact hr)) rfl ?_) | (refine wW (x := .tmp 67) rfl ?_; refine zX rfl (by kernel_rfl) rfl (xF (T := rwT) (i := 0 + s.pos.toNat) (z := r) rfl rfl rfl (by rw [Nat.zero_add, e1]; exact hr)) rfl ?_) | (refine kK (x := .tmp 9) ?_; refine zc rfl (uz rfl rfl rfl rfl rfl (vy r) rfl rfl) rfl ?_) | (refine kJ (x := .tmp 9) rfl ?_; refine zX rfl (by kernel_rfl) rfl (uz rfl rfl rfl rfl rfl (vy r) rfl rfl) rfl ?_) | (refine wT (x := .tmp 9) ?_; refine zc rfl (w9 rfl rfl (zp rfl) rfl rfl) rfl ?_) | (refine wW (x := .tmp 9) rfl ?_; refine zX rfl (by kernel_rfl) rfl (w9 rfl rfl (zp rfl) rfl rfl) rfl ?_) | (refine zu 59 ?_; refine zc rfl (zQ rfl cb (.cons (.same rfl) (.cons (zq rfl) .nil)) rfl) rfl ?_) | (refine zv 59 rfl ?_; refine zX rfl (by kernel_rfl) rfl (zQ rfl cb (.cons (.same rfl) (.cons (zq rfl) .nil)) rfl) rfl ?_) | refine zD ?_ | refine zB _ rfl (by kernel_rfl) ?_ | refine zV rfl ?_ | refine zW rfl ?_ | refine zC ?_ | with_reducible refine zO ?_ | refine zH ?_ | refine zI ?_ | (with_reducible first | refine zM ?_ | refine zN ?_ | refine zE ?_ | refine zG ?_ | refine zF ?_) | refine zP ?_
  refine zd rfl (fun h => ?_) (fun h => ?_)
  · repeat' first | (refine isA ?_; refine zc rfl (yN rfl rfl rfl rfl rfl) rfl ?_) | refine zK ?_ | refine zA ?_ | refine zL [] ?_ | (refine isA ?_; refine zf rfl ?_) | (refine isL ?_; refine zU rfl (by kernel_rfl) rfl rfl ?_) | (refine zb rfl ?_; refine zT rfl (by kernel_rfl) rfl rfl ?_) | (refine wT (x := .tmp 9) ?_; refine zc rfl (w9 rfl rfl (zp rfl) rfl rfl) rfl ?_) | (refine wW (x := .tmp 9) rfl ?_; refine zX rfl (by kernel_rfl) rfl (w9 rfl rfl (zp rfl) rfl rfl) rfl ?_) | (refine xU ?_; refine zc rfl (yX (t := rwT) (xs := s.dfr) (ys := [r]) rfl rfl rfl rfl (.lst _ _) (by simp; omega) rfl) rfl ?_) | (refine y9 rfl ?_; refine zX rfl (by kernel_rfl) rfl (yX (t := rwT) (xs := s.dfr) (ys := [r]) rfl rfl rfl rfl (.lst _ _) (by simp; omega) rfl) rfl ?_) | refine zD ?_ | refine zB _ rfl (by kernel_rfl) ?_ | refine zV rfl ?_ | refine zW rfl ?_ | refine zC ?_ | with_reducible refine zO ?_ | refine zH ?_ | refine zI ?_ | (with_reducible first | refine zM ?_ | refine zN ?_ | refine zE ?_ | refine zG ?_ | refine zF ?_) | refine zP ?_
    have e : wc s r = { s with dfr := s.dfr ++ [r], pos := s.pos + 1 } := by unfold wc; rw [h]; rfl
    rw [e]
    refine And.intro rfl (vN [0, 1, 2, 3, 4, 5, s.runs.length + 1 + 9, 7, 8] (List.range' 9 s.runs.length) rfl (by simp) (xG (by simp <;> omega) (fun h hh => by simp at hh; omega)) (by repeat' first | exact HLes.nil | refine HLes.cons rfl rfl rfl rfl (zY (zJ _ _)) ?_ | refine HLes.cons rfl rfl rfl rfl (z6 rfl) ?_ | refine HLes.cons rfl rfl rfl rfl (ws (fun j hj => w7 _ 9 _ j hj)) ?_ | refine HLes.cons (yO (zp wC)) rfl rfl rfl (zY (zJ _ _)) ?_ | refine HLes.cons (yO (zp xn)) rfl rfl rfl (zY (zJ _ _)) ?_ | refine HLes.cons (yO (zp xm)) rfl rfl rfl (zY (zJ _ _)) ?_ | refine HLes.cons (yO (zp x4)) rfl rfl rfl (zY (zJ _ _)) ?_ | refine HLes.cons (yO (zh (zp wC))) rfl rfl rfl (zY (zJ _ _)) ?_ | refine HLes.cons (yO (zh (zp xn))) rfl rfl rfl (zY (zJ _ _)) ?_ | refine HLes.cons (yO (zh (zp xm))) rfl rfl rfl (zY (zJ _ _)) ?_ | refine HLes.cons (yO (zh (zp x4))) rfl rfl rfl (zY (zJ _ _)) ?_ | refine HLes.cons (yO (zh (zh (zp wC)))) rfl rfl rfl (zY (zJ _ _)) ?_ | refine HLes.cons (yO (zh (zh (zp xn)))) rfl rfl rfl (zY (zJ _ _)) ?_ | refine HLes.cons (yO (zh (zh (zp xm)))) rfl rfl rfl (zY (zJ _ _)) ?_ | refine HLes.cons (yO (zh (zh (zp x4)))) rfl rfl rfl (zY (zJ _ _)) ?_ | refine HLes.cons rfl rfl rfl rfl (by repeat' first | exact zg | refine zZ ?_ ?_ | exact zo | exact le_refl rfl | exact zj rfl rfl | exact zt rfl | exact zt (congrArg some (by simp [zm] <;> omega)) | exact zj rfl (by simp) | exact zj (congrArg some (by simp [zm] <;> omega)) rfl | exact zj (congrArg some (by simp [zm] <;> omega)) (by simp [yf, endV, yQ]) | exact z8 (congrArg _ (by assumption)) | exact z8 (congrArg _ (Eq.symm (by assumption)))) ?_) (fun j i x hi hx => by rw [ix9 hi]; exact tC (zh (zh (xX hx)))) (by repeat' first | exact zg | refine zZ ?_ ?_ | exact zo | exact le_refl rfl | exact zj rfl rfl | exact zt rfl | exact zt (congrArg some (by simp [zm] <;> omega)) | exact zj rfl (by simp) | exact zj (congrArg some (by simp [zm] <;> omega)) rfl | exact zj (congrArg some (by simp [zm] <;> omega)) (by simp [yf, endV, yQ]) | exact z8 (congrArg _ (by assumption)) | exact z8 (congrArg _ (Eq.symm (by assumption)))))
  · repeat' first | (refine isA ?_; refine zc rfl (yN rfl rfl rfl rfl rfl) rfl ?_) | refine zK ?_ | refine zA ?_ | refine zL [] ?_ | (refine isA ?_; refine zf rfl ?_) | (refine isL ?_; refine zU rfl (by kernel_rfl) rfl rfl ?_) | (refine zb rfl ?_; refine zT rfl (by kernel_rfl) rfl rfl ?_) | (refine wT (x := .tmp 9) ?_; refine zc rfl (w9 rfl rfl (zp rfl) rfl rfl) rfl ?_) | (refine wW (x := .tmp 9) rfl ?_; refine zX rfl (by kernel_rfl) rfl (w9 rfl rfl (zp rfl) rfl rfl) rfl ?_) | (refine xU ?_; refine zc rfl (yX (t := rwT) (xs := s.heap) (ys := [r]) rfl rfl rfl rfl (.lst _ _) (by simp; omega) rfl) rfl ?_) | (refine y9 rfl ?_; refine zX rfl (by kernel_rfl) rfl (yX (t := rwT) (xs := s.heap) (ys := [r]) rfl rfl rfl rfl (.lst _ _) (by simp; omega) rfl) rfl ?_) | refine zD ?_ | refine zB _ rfl (by kernel_rfl) ?_ | refine zV rfl ?_ | refine zW rfl ?_ | refine zC ?_ | with_reducible refine zO ?_ | refine zH ?_ | refine zI ?_ | (with_reducible first | refine zM ?_ | refine zN ?_ | refine zE ?_ | refine zG ?_ | refine zF ?_) | refine zP ?_
    have e : wc s r = { s with heap := s.heap ++ [r], pos := s.pos + 1 } := by unfold wc; rw [h]; rfl
    rw [e]
    refine And.intro rfl (vN [0, 1, 2, 3, 4, s.runs.length + 1 + 9, 6, 7, 8] (List.range' 9 s.runs.length) rfl (by simp) (xG (by simp <;> omega) (fun h hh => by simp at hh; omega)) (by repeat' first | exact HLes.nil | refine HLes.cons rfl rfl rfl rfl (zY (zJ _ _)) ?_ | refine HLes.cons rfl rfl rfl rfl (z6 rfl) ?_ | refine HLes.cons rfl rfl rfl rfl (ws (fun j hj => w7 _ 9 _ j hj)) ?_ | refine HLes.cons (yO (zp wC)) rfl rfl rfl (zY (zJ _ _)) ?_ | refine HLes.cons (yO (zp xn)) rfl rfl rfl (zY (zJ _ _)) ?_ | refine HLes.cons (yO (zp xm)) rfl rfl rfl (zY (zJ _ _)) ?_ | refine HLes.cons (yO (zp x4)) rfl rfl rfl (zY (zJ _ _)) ?_ | refine HLes.cons (yO (zh (zp wC))) rfl rfl rfl (zY (zJ _ _)) ?_ | refine HLes.cons (yO (zh (zp xn))) rfl rfl rfl (zY (zJ _ _)) ?_ | refine HLes.cons (yO (zh (zp xm))) rfl rfl rfl (zY (zJ _ _)) ?_ | refine HLes.cons (yO (zh (zp x4))) rfl rfl rfl (zY (zJ _ _)) ?_ | refine HLes.cons (yO (zh (zh (zp wC)))) rfl rfl rfl (zY (zJ _ _)) ?_ | refine HLes.cons (yO (zh (zh (zp xn)))) rfl rfl rfl (zY (zJ _ _)) ?_ | refine HLes.cons (yO (zh (zh (zp xm)))) rfl rfl rfl (zY (zJ _ _)) ?_ | refine HLes.cons (yO (zh (zh (zp x4)))) rfl rfl rfl (zY (zJ _ _)) ?_ | refine HLes.cons rfl rfl rfl rfl (by repeat' first | exact zg | refine zZ ?_ ?_ | exact zo | exact le_refl rfl | exact zj rfl rfl | exact zt rfl | exact zt (congrArg some (by simp [zm] <;> omega)) | exact zj rfl (by simp) | exact zj (congrArg some (by simp [zm] <;> omega)) rfl | exact zj (congrArg some (by simp [zm] <;> omega)) (by simp [yf, endV, yQ]) | exact z8 (congrArg _ (by assumption)) | exact z8 (congrArg _ (Eq.symm (by assumption)))) ?_) (fun j i x hi hx => by rw [ix9 hi]; exact tC (zh (zh (xX hx)))) (by repeat' first | exact zg | refine zZ ?_ ?_ | exact zo | exact le_refl rfl | exact zj rfl rfl | exact zt rfl | exact zt (congrArg some (by simp [zm] <;> omega)) | exact zj rfl (by simp) | exact zj (congrArg some (by simp [zm] <;> omega)) rfl | exact zj (congrArg some (by simp [zm] <;> omega)) (by simp [yf, endV, yQ]) | exact z8 (congrArg _ (by assumption)) | exact z8 (congrArg _ (Eq.symm (by assumption)))))
abbrev T10 (s : So) (g : Int) : St := ⟨(.any :: (I g) :: (.ptr 0 0) :: .any :: (.ptr 1 0) :: .any :: .any :: (.ptr 2 0) :: (.sl 3 0 0) :: .any :: .any :: .any :: .any :: .any :: .any :: .any :: .any :: .any :: .any :: .any :: .any :: .any :: .any :: .any :: .any :: .any :: .any :: .any :: .any :: .any :: .any :: .any :: .any :: .any :: .any :: .any :: .any :: .any :: .any :: .any :: .any :: .any :: (B false) :: .any :: .any :: .any :: .any :: .any :: .any :: .any :: .any :: .any :: .any :: .any :: .any :: .any :: .any :: .any :: .any :: .any :: .any :: .any :: .any :: .any :: .any :: .any :: .any :: .any :: .any :: .any :: .any :: .any :: .any :: .any :: .any :: .any :: .any :: .any :: .any :: .any :: .any :: .any :: .any :: .any :: .any :: .any :: .any :: .any :: .any :: .any :: .any :: .any :: .any :: .any :: .any :: .any :: .any :: .any :: .any :: .any :: .any :: .any :: .any :: .any :: .any :: .any :: .any :: .any :: .any :: .any :: .any :: .any :: .any :: .any :: .any :: .any :: .any :: .any :: .any :: .any :: .any :: .any :: .any :: .any :: .any :: .any :: .any :: .any :: .any :: .any :: .any :: .any :: .any :: .any :: .any :: .any :: .any :: .any :: .any :: .any :: .any :: .any :: .any :: .any :: .any :: .any :: .any :: .any :: .any :: .any :: .any :: .any :: .any :: .any :: .any :: .any :: .any :: .any :: .any :: .any :: .any :: .any :: .any :: .any :: .any :: .any :: .any :: .any :: .any :: .any :: .any :: .any :: .any :: .any :: .any :: .any :: .any :: .any :: .any :: .any :: .any :: .any :: .any :: .any :: .any :: .any :: .any :: .any :: .any :: .any :: .any :: .any :: .any :: .any :: .any :: .any :: .any :: .any :: .any :: .any :: .any :: .any :: .any :: .any :: .any :: .any :: .any :: .any :: .any :: .any :: .any :: .any :: .any :: .any :: .any :: .any :: .any :: .any :: .any :: .any :: .any :: .any :: .any :: .any :: .any :: .any :: .any :: .any :: .any :: .any :: .any :: .any :: .any :: .any :: .any :: .any :: .any :: .any :: .any :: .any :: .any :: .any :: .any :: .any :: .any :: .any :: .any :: .any :: .any :: []), stH s s [], 0⟩
noncomputable def reg10 : Code := match pH with
  | .seq _ (.block _ (.seq _ (.cond _ (.block _ (.seq r _)) _))) => r
  | _ => .skip
theorem ti (s : So) (g : Int) (hok : okSo s) (hb : VBa s) (hm : yv s ≤ 60) (hf : uL s g) : AW Go.Proofs.Try.prog reg10 (fun e S' => e = .normal ∧ Sub (T10 s g) S') ⟨(.any :: (I g) :: (.ptr 0 0) :: .any :: (.ptr 1 0) :: .any :: .any :: (.ptr 2 0) :: (.sl 3 0 0) :: .any :: .any :: .any :: .any :: .any :: .any :: .any :: .any :: .any :: .any :: .any :: .any :: .any :: .any :: .any :: .any :: .any :: .any :: .any :: .any :: .any :: .any :: .any :: (.ptr 2 8) :: (I s.ph) :: (B (decide (s.ph = 1))) :: (B (decide (s.ph = 1))) :: .any :: .any :: .any :: .any :: .any :: .any :: .any :: .any :: .any :: .any :: .any :: .any :: .any :: .any :: .any :: .any :: .any :: .any :: .any :: .any :: .any :: .any :: .any :: .any :: .any :: .any :: .any :: .any :: .any :: .any :: .any :: .any :: .any :: .any :: .any :: .any :: .any :: .any :: .any :: .any :: .any :: .any :: .any :: .any :: .any :: .any :: .any :: .any :: .any :: .any :: .any :: .any :: .any :: .any :: .any :: .any :: .any :: .any :: .any :: .any :: .any :: .any :: .any :: .any :: .any :: .any :: .any :: .any :: .any :: .any :: .any :: .any :: .any :: .any :: .any :: .any :: .any :: .any :: .any :: .any :: .any :: .any :: .any :: .any :: .any :: .any :: .any :: .any :: .any :: .any :: .any :: .any :: .any :: .any :: .any :: .any :: .any :: .any :: .any :: .any :: .any :: .any :: .any :: .any :: .any :: .any :: .any :: .any :: .any :: .any :: .any :: .any :: .any :: .any :: .any :: .any :: .any :: .any :: .any :: .any :: .any :: .any :: .any :: .any :: .any :: .any :: .any :: .any :: .any :: .any :: .any :: .any :: .any :: .any :: .any :: .any :: .any :: .any :: .any :: .any :: .any :: .any :: .any :: .any :: .any :: .any :: .any :: .any :: .any :: .any :: .any :: .any :: .any :: .any :: .any :: .any :: .any :: .any :: .any :: .any :: .any :: .any :: .any :: .any :: .any :: .any :: .any :: .any :: .any :: .any :: .any :: .any :: .any :: .any :: .any :: .any :: .any :: .any :: .any :: .any :: .any :: .any :: .any :: .any :: .any :: .any :: .any :: .any :: .any :: .any :: .any :: .any :: .any :: .any :: .any :: .any :: .any :: .any :: .any :: .any :: .any :: .any :: .any :: .any :: .any :: .any :: .any :: .any :: .any :: .any :: .any :: .any :: .any :: []), stH s s [], 0⟩ := by
  obtain ⟨p, hpp, hple⟩ := hb.pos
  have e1 : s.pos.toNat = p := by omega
  have g3 := hok.input
  have am := tK s hok
  repeat' first | refine zK ?_ | refine zA ?_ | refine zL [] ?_ | (refine isA ?_; refine zf rfl ?_) | (refine isL ?_; refine zU rfl (by kernel_rfl) rfl rfl ?_) | (refine zb rfl ?_; refine zT rfl (by kernel_rfl) rfl rfl ?_) | refine zD ?_ | refine zB _ rfl (by kernel_rfl) ?_ | refine zV rfl ?_ | refine zW rfl ?_ | refine zC ?_ | with_reducible refine zO ?_ | refine zH ?_ | refine zI ?_ | (with_reducible first | refine zM ?_ | refine zN ?_ | refine zE ?_ | refine zG ?_ | refine zF ?_) | refine zP ?_
  refine yI rfl rfl rfl rfl (fun h => ?_) (fun h => ?_)
  · have hlt : p < s.input.length := by have := of_decide_eq_true h; omega
    obtain ⟨z, hz⟩ : ∃ z, s.input[p]? = some z := ⟨_, List.getElem?_eq_getElem hlt⟩
    have hfz := hf z (by rw [e1]; exact hz)
    have hd : decide (IntKind.i64.wrap (yv s + yx z) ≤ g) = false := by rw [qW hm]; exact decide_eq_false (by omega)
    repeat' first | refine zK ?_ | refine zA ?_ | refine zL [] ?_ | (refine isA ?_; refine zf rfl ?_) | (refine isL ?_; refine zU rfl (by kernel_rfl) rfl rfl ?_) | (refine zb rfl ?_; refine zT rfl (by kernel_rfl) rfl rfl ?_) | (refine zu 19 ?_; refine zc rfl (zQ rfl am (.cons (sB rfl rfl rfl rfl rfl fun j x hx => tC (xX hx)) .nil) rfl) rfl ?_) | (refine zv 19 rfl ?_; refine zX rfl (by kernel_rfl) rfl (zQ rfl am (.cons (sB rfl rfl rfl rfl rfl fun j x hx => tC (xX hx)) .nil) rfl) rfl ?_) | (refine yG (x := .tmp 53) ?_; refine zc rfl (z4 (j := s.pos) rfl rfl rfl (Nat.zero_le _) rfl rfl (by omega) (by omega)) rfl ?_) | (refine yF (x := .tmp 53) rfl ?_; refine zX rfl (by kernel_rfl) rfl (z4 (j := s.pos) rfl rfl rfl (Nat.zero_le _) rfl rfl (by omega) (by omega)) rfl ?_) | (refine wT (x := .tmp 56) ?_; refine zc rfl (xF (T := rwT) (i := 0 + s.pos.toNat) (z := z) rfl rfl rfl (by rw [Nat.zero_add, e1]; exact hz)) rfl ?_) | (refine wW (x := .tmp 56) rfl ?_; refine zX rfl (by kernel_rfl) rfl (xF (T := rwT) (i := 0 + s.pos.toNat) (z := z) rfl rfl rfl (by rw [Nat.zero_add, e1]; exact hz)) rfl ?_) | (refine zu 58 ?_; refine zc rfl (zQ rfl (vY z) (.cons (.same rfl) .nil) rfl) rfl ?_) | (refine zv 58 rfl ?_; refine zX rfl (by kernel_rfl) rfl (zQ rfl (vY z) (.cons (.same rfl) .nil) rfl) rfl ?_) | refine zD ?_ | refine zB _ rfl (by kernel_rfl) ?_ | refine zV rfl ?_ | refine zW rfl ?_ | refine zC ?_ | with_reducible refine zO ?_ | refine zH ?_ | refine zI ?_ | (with_reducible first | refine zM ?_ | refine zN ?_ | refine zE ?_ | refine zG ?_ | refine zF ?_) | refine zP ?_
    exact ⟨rfl, vN [0, 1, 2, 3, 4, 5, 6, 7, 8] (List.range' 9 s.runs.length) rfl (by simp) (xG (by simp <;> omega) (fun h hh => by simp at hh; omega)) (by repeat' first | exact HLes.nil | refine HLes.cons rfl rfl rfl rfl (zY (zJ _ _)) ?_ | refine HLes.cons rfl rfl rfl rfl (z6 rfl) ?_ | refine HLes.cons rfl rfl rfl rfl (ws (fun j hj => w7 _ 9 _ j hj)) ?_ | refine HLes.cons (yO (zp wC)) rfl rfl rfl (zY (zJ _ _)) ?_ | refine HLes.cons (yO (zp xn)) rfl rfl rfl (zY (zJ _ _)) ?_ | refine HLes.cons (yO (zp xm)) rfl rfl rfl (zY (zJ _ _)) ?_ | refine HLes.cons (yO (zp x4)) rfl rfl rfl (zY (zJ _ _)) ?_ | refine HLes.cons (yO (zh (zp wC))) rfl rfl rfl (zY (zJ _ _)) ?_ | refine HLes.cons (yO (zh (zp xn))) rfl rfl rfl (zY (zJ _ _)) ?_ | refine HLes.cons (yO (zh (zp xm))) rfl rfl rfl (zY (zJ _ _)) ?_ | refine HLes.cons (yO (zh (zp x4))) rfl rfl rfl (zY (zJ _ _)) ?_ | refine HLes.cons (yO (zh (zh (zp wC)))) rfl rfl rfl (zY (zJ _ _)) ?_ | refine HLes.cons (yO (zh (zh (zp xn)))) rfl rfl rfl (zY (zJ _ _)) ?_ | refine HLes.cons (yO (zh (zh (zp xm)))) rfl rfl rfl (zY (zJ _ _)) ?_ | refine HLes.cons (yO (zh (zh (zp x4)))) rfl rfl rfl (zY (zJ _ _)) ?_ | refine HLes.cons rfl rfl rfl rfl (by repeat' first | exact zg | refine zZ ?_ ?_ | exact zo | exact le_refl rfl | exact zj rfl rfl | exact zt rfl | exact zt (congrArg some (by simp [zm] <;> omega)) | exact zj rfl (by simp) | exact zj (congrArg some (by simp [zm] <;> omega)) rfl | exact zj (congrArg some (by simp [zm] <;> omega)) (by simp [yf, endV, yQ]) | exact z8 (congrArg _ (by assumption)) | exact z8 (congrArg _ (Eq.symm (by assumption)))) ?_) (fun j i x hi hx => by rw [ix9 hi]; exact tC (xX hx)) (by repeat' first | exact zg | refine zZ ?_ ?_ | exact zo | exact le_refl rfl | exact zj rfl rfl | exact zt rfl | exact zt (congrArg some (by simp [zm] <;> omega)) | exact zj rfl (by simp) | exact zj (congrArg some (by simp [zm] <;> omega)) rfl | exact zj (congrArg some (by simp [zm] <;> omega)) (by simp [yf, endV, yQ]) | exact z8 (congrArg _ (by assumption)) | exact z8 (congrArg _ (Eq.symm (by assumption))))⟩
  · repeat' first | refine zK ?_ | refine zA ?_ | refine zL [] ?_ | (refine isA ?_; refine zf rfl ?_) | (refine isL ?_; refine zU rfl (by kernel_rfl) rfl rfl ?_) | (refine zb rfl ?_; refine zT rfl (by kernel_rfl) rfl rfl ?_) | refine zD ?_ | refine zB _ rfl (by kernel_rfl) ?_ | refine zV rfl ?_ | refine zW rfl ?_ | refine zC ?_ | with_reducible refine zO ?_ | refine zH ?_ | refine zI ?_ | (with_reducible first | refine zM ?_ | refine zN ?_ | refine zE ?_ | refine zG ?_ | refine zF ?_) | refine zP ?_
    exact ⟨rfl, vN [0, 1, 2, 3, 4, 5, 6, 7, 8] (List.range' 9 s.runs.length) rfl (by simp) (xG (by simp <;> omega) (fun h hh => by simp at hh; omega)) (by repeat' first | exact HLes.nil | refine HLes.cons rfl rfl rfl rfl (zY (zJ _ _)) ?_ | refine HLes.cons rfl rfl rfl rfl (z6 rfl) ?_ | refine HLes.cons rfl rfl rfl rfl (ws (fun j hj => w7 _ 9 _ j hj)) ?_ | refine HLes.cons (yO (zp wC)) rfl rfl rfl (zY (zJ _ _)) ?_ | refine HLes.cons (yO (zp xn)) rfl rfl rfl (zY (zJ _ _)) ?_ | refine HLes.cons (yO (zp xm)) rfl rfl rfl (zY (zJ _ _)) ?_ | refine HLes.cons (yO (zp x4)) rfl rfl rfl (zY (zJ _ _)) ?_ | refine HLes.cons (yO (zh (zp wC))) rfl rfl rfl (zY (zJ _ _)) ?_ | refine HLes.cons (yO (zh (zp xn))) rfl rfl rfl (zY (zJ _ _)) ?_ | refine HLes.cons (yO (zh (zp xm))) rfl rfl rfl (zY (zJ _ _)) ?_ | refine HLes.cons (yO (zh (zp x4))) rfl rfl rfl (zY (zJ _ _)) ?_ | refine HLes.cons (yO (zh (zh (zp wC)))) rfl rfl rfl (zY (zJ _ _)) ?_ | refine HLes.cons (yO (zh (zh (zp xn)))) rfl rfl rfl (zY (zJ _ _)) ?_ | refine HLes.cons (yO (zh (zh (zp xm)))) rfl rfl rfl (zY (zJ _ _)) ?_ | refine HLes.cons (yO (zh (zh (zp x4)))) rfl rfl rfl (zY (zJ _ _)) ?_ | refine HLes.cons rfl rfl rfl rfl (by repeat' first | exact zg | refine zZ ?_ ?_ | exact zo | exact le_refl rfl | exact zj rfl rfl | exact zt rfl | exact zt (congrArg some (by simp [zm] <;> omega)) | exact zj rfl (by simp) | exact zj (congrArg some (by simp [zm] <;> omega)) rfl | exact zj (congrArg some (by simp [zm] <;> omega)) (by simp [yf, endV, yQ]) | exact z8 (congrArg _ (by assumption)) | exact z8 (congrArg _ (Eq.symm (by assumption)))) ?_) (fun j i x hi hx => by rw [ix9 hi]; exact tC (xX hx)) (by repeat' first | exact zg | refine zZ ?_ ?_ | exact zo | exact le_refl rfl | exact zj rfl rfl | exact zt rfl | exact zt (congrArg some (by simp [zm] <;> omega)) | exact zj rfl (by simp) | exact zj (congrArg some (by simp [zm] <;> omega)) rfl | exact zj (congrArg some (by simp [zm] <;> omega)) (by simp [yf, endV, yQ]) | exact z8 (congrArg _ (by assumption)) | exact z8 (congrArg _ (Eq.symm (by assumption))))⟩
theorem c_pop (s : So) (g : Int) (k : Nat) (r : Rw) (hok : okSo s) (hb : VBa s) (hm : yv s ≤ 60) (hp : s.ph = 1) (hf : uL s g) (hh : 0 < s.heap.length) (hk : nA s.heap = (k : Nat)) (hr : s.heap[k]? = some r) : AW Go.Proofs.Try.prog pH (stQ s (uO s k r) g []) (stT s s g []) := by
  obtain ⟨p, hpp, hple⟩ := hb.pos
  have e1 : s.pos.toNat = p := by omega
  have hlt := (List.getElem?_eq_some_iff.1 hr).1
  have g1 := hok.heap
  have g2 := hok.dfr
  have g3 := hok.input
  have g4 := hok.out
  have am := tK s hok
  have ai := e8 s.heap (by omega)
  rw [hk] at ai
  repeat' first | (refine zd rfl (fun _ => ?_) (fun h => absurd hp (of_decide_eq_false h))) | (refine uu 10 (T10 s g) (xt ?_) ?_) | (refine yW rfl rfl (fun h => absurd (of_decide_eq_true h) (by omega)) (fun _ => ?_)) | (refine zd rfl (fun _ => ?_) (fun h => absurd (of_decide_eq_false h) (by omega))) | (refine isA ?_; refine zc rfl (yN rfl rfl rfl rfl rfl) rfl ?_) | refine zK ?_ | refine zA ?_ | refine zL [6] ?_ | (refine isA ?_; refine zf rfl ?_) | (refine isL ?_; refine zU rfl (by kernel_rfl) rfl rfl ?_) | (refine zb rfl ?_; refine zT rfl (by kernel_rfl) rfl rfl ?_) | (refine zu 61 ?_; refine zc rfl (zQ rfl ai (.cons (zq rfl) .nil) rfl) rfl ?_) | (refine zv 61 rfl ?_; refine zX rfl (by kernel_rfl) rfl (zQ rfl ai (.cons (zq rfl) .nil) rfl) rfl ?_) | (refine yG (x := .tmp 114) ?_; refine zc rfl (z4 (j := (k : Int)) rfl rfl rfl (Nat.zero_le _) rfl rfl (Int.natCast_nonneg _) (by omega)) rfl ?_) | (refine yF (x := .tmp 114) rfl ?_; refine zX rfl (by kernel_rfl) rfl (z4 (j := (k : Int)) rfl rfl rfl (Nat.zero_le _) rfl rfl (Int.natCast_nonneg _) (by omega)) rfl ?_) | (refine wT (x := .tmp 116) ?_; refine zc rfl (xF (T := rwT) (i := 0 + k) (z := r) rfl rfl rfl (by rw [Nat.zero_add]; exact hr)) rfl ?_) | (refine wW (x := .tmp 116) rfl ?_; refine zX rfl (by kernel_rfl) rfl (xF (T := rwT) (i := 0 + k) (z := r) rfl rfl rfl (by rw [Nat.zero_add]; exact hr)) rfl ?_) | (refine kK (x := .tmp 11) ?_; refine zc rfl (uz rfl rfl rfl rfl rfl (vy r) rfl rfl) rfl ?_) | (refine kJ (x := .tmp 11) rfl ?_; refine zX rfl (by kernel_rfl) rfl (uz rfl rfl rfl rfl rfl (vy r) rfl rfl) rfl ?_) | (refine zu 62 ?_; refine zc rfl (yd rfl (mI s.heap k hlt (by omega)) (.cons (zq rfl) (.cons (.same rfl) .nil)) (fun q hq => by simp at hq; subst hq; exact zJ _ _) rfl rfl) rfl ?_) | (refine zv 62 rfl ?_; refine zX rfl (by kernel_rfl) rfl (yd rfl (mI s.heap k hlt (by omega)) (.cons (zq rfl) (.cons (.same rfl) .nil)) (fun q hq => by simp at hq; subst hq; exact zJ _ _) rfl rfl) rfl ?_) | (refine wT (x := .tmp 11) ?_; refine zc rfl (w9 rfl rfl (yO (j := (nR rwT 78 s.runs).length) (zh (zp rfl))) rfl rfl) rfl ?_) | (refine wW (x := .tmp 11) rfl ?_; refine zX rfl (by kernel_rfl) rfl (w9 rfl rfl (yO (j := (nR rwT 78 s.runs).length) (zh (zp rfl))) rfl rfl) rfl ?_) | (refine wT (x := .tmp 11) ?_; refine zc rfl (w9 rfl rfl (yO (j := (nR rwT 78 s.runs).length) (zh (zh (zp rfl)))) rfl rfl) rfl ?_) | (refine wW (x := .tmp 11) rfl ?_; refine zX rfl (by kernel_rfl) rfl (w9 rfl rfl (yO (j := (nR rwT 78 s.runs).length) (zh (zh (zp rfl)))) rfl rfl) rfl ?_) | (refine xU ?_; refine zc rfl (yX (t := rwT) (xs := s.out) (ys := [r]) rfl rfl rfl rfl (.lst _ _) (by simp; omega) rfl) rfl ?_) | (refine y9 rfl ?_; refine zX rfl (by kernel_rfl) rfl (yX (t := rwT) (xs := s.out) (ys := [r]) rfl rfl rfl rfl (.lst _ _) (by simp; omega) rfl) rfl ?_) | (refine zu 58 ?_; refine zc rfl (zQ rfl (vY r) (.cons (.same rfl) .nil) rfl) rfl ?_) | (refine zv 58 rfl ?_; refine zX rfl (by kernel_rfl) rfl (zQ rfl (vY r) (.cons (.same rfl) .nil) rfl) rfl ?_) | (refine isL ?_; refine vo rfl (by kernel_rfl) rfl rfl ?_) | refine zD ?_ | refine zB _ rfl (by kernel_rfl) ?_ | refine zV rfl ?_ | refine zW rfl ?_ | refine zC ?_ | with_reducible refine zO ?_ | refine zH ?_ | refine zI ?_ | (with_reducible first | refine zM ?_ | refine zN ?_ | refine zE ?_ | refine zG ?_ | refine zF ?_) | refine zP ?_
  · exact we (ti s g hok hb hm hf)
  · refine And.intro rfl (vN [0, 1, 2, 3, 4, s.runs.length + 1 + 9, 6, s.runs.length + 2 + 9, 8] (List.range' 9 s.runs.length) rfl (by simp [uO]) (xG (by simp <;> omega) (fun h hh => by simp at hh; omega)) (by repeat' first | exact HLes.nil | refine HLes.cons rfl rfl rfl rfl (zY (zJ _ _)) ?_ | refine HLes.cons rfl rfl rfl rfl (z6 rfl) ?_ | refine HLes.cons rfl rfl rfl rfl (ws (fun j hj => w7 _ 9 _ j hj)) ?_ | refine HLes.cons (yO (zp wC)) rfl rfl rfl (zY (zJ _ _)) ?_ | refine HLes.cons (yO (zp xn)) rfl rfl rfl (zY (zJ _ _)) ?_ | refine HLes.cons (yO (zp xm)) rfl rfl rfl (zY (zJ _ _)) ?_ | refine HLes.cons (yO (zp x4)) rfl rfl rfl (zY (zJ _ _)) ?_ | refine HLes.cons (yO (zh (zp wC))) rfl rfl rfl (zY (zJ _ _)) ?_ | refine HLes.cons (yO (zh (zp xn))) rfl rfl rfl (zY (zJ _ _)) ?_ | refine HLes.cons (yO (zh (zp xm))) rfl rfl rfl (zY (zJ _ _)) ?_ | refine HLes.cons (yO (zh (zp x4))) rfl rfl rfl (zY (zJ _ _)) ?_ | refine HLes.cons (yO (zh (zh (zp wC)))) rfl rfl rfl (zY (zJ _ _)) ?_ | refine HLes.cons (yO (zh (zh (zp xn)))) rfl rfl rfl (zY (zJ _ _)) ?_ | refine HLes.cons (yO (zh (zh (zp xm)))) rfl rfl rfl (zY (zJ _ _)) ?_ | refine HLes.cons (yO (zh (zh (zp x4)))) rfl rfl rfl (zY (zJ _ _)) ?_ | refine HLes.cons rfl rfl rfl rfl (by repeat' first | exact zg | refine zZ ?_ ?_ | exact zo | exact le_refl rfl | exact zj rfl rfl | exact zt rfl | exact zt (congrArg some (by simp [zm] <;> omega)) | exact zj rfl (by simp) | exact zj (congrArg some (by simp [zm] <;> omega)) rfl | exact zj (congrArg some (by simp [zm] <;> omega)) (by simp [yf, endV, yQ]) | exact z8 (congrArg _ (by assumption)) | exact z8 (congrArg _ (Eq.symm (by assumption)))) ?_) (fun j i x hi hx => by rw [ix9 hi]; exact tC (zh (zh (zh (xX hx))))) (by repeat' first | exact zg | refine zZ ?_ ?_ | exact zo | exact le_refl rfl | exact zj rfl rfl | exact zt rfl | exact zt (congrArg some (by simp [zm] <;> omega)) | exact zj rfl (by simp) | exact zj (congrArg some (by simp [zm] <;> omega)) rfl | exact zj (congrArg some (by simp [zm] <;> omega)) (by simp [yf, endV, yQ]) | exact z8 (congrArg _ (by assumption)) | exact z8 (congrArg _ (Eq.symm (by assumption)))))
end Go.Proofs.Ytojcojanokhnaaa.Ab
namespace Go.Proofs.Ytojcojanokhnaaa.Ab
open Go.RowKit
theorem ap_c {o : Oper} {ρ : Operand → V} {H : List Reg} {h hz : Nat} {v : V} {s x : Operand} {cells : List V} (ho : o.op = .call { callee := .builtin .append, args := #[s, x], argTypes := #[25, 25] })
    (hs : ρ s = .sl h 0 cells.length) (hH : H[h]? = some ⟨84, 1, cells, 0⟩) (hx : ρ x = .sl hz 0 1) (hzz : H[hz]? = some ⟨84, 1, [v], 0⟩) (hv : v8 v = true) (hl : cells.length ≤ 100000000) :
    z7 Go.Proofs.Try.prog o ρ H (.sl H.length 0 (cells.length + 1)) (H.set h ⟨84, 1, cells, 2⟩ ++ [⟨84, 1, cells ++ [v], 0⟩]) := by
  have hsrc : Src H (ρ x) 1 [v] := by
    rw [hx]
    exact Src.sl (H := H) (off := 0) (m := 1) (r := ⟨84, 1, [v], 0⟩) hzz (Nat.zero_le _) (Nat.le_refl _)
  have := ww (P := Go.Proofs.Try.prog) (ρ := ρ) (ty := 25) (m := 1) ho hs hH rfl rfl rfl (by show cells.length * 1 ≤ cells.length; omega) hsrc rfl (fun c hc => by simp at hc; subst hc; exact hv) (by omega) (by simp only [maxLen]; omega)
  have e1 : (⟨84, 1, cells, 0⟩ : Reg).cells.take (cells.length * 1) = cells := by
    show cells.take _ = _
    rw [List.take_of_length_le (by omega)]
  rw [e1] at this
  exact this
theorem pf (a0 a1 a3 a4 a5 a6 : Reg) (c0 c1 c2 c3 c6 c7 c8 c9 : V) (out : List Rw) (cells : List V) (n : Nat) (hn : cells.length = n) (L : List Reg) (hl : n ≤ 100000000) :
    zy Go.Proofs.Try.prog 60 [.ptr 2 0] (a0 :: a1 :: bxS [c0, c1, c2, c3, .sl 7 0 out.length, .sl 8 0 n, c6, c7, c8, c9] :: a3 :: a4 :: a5 :: a6 :: rwR out :: ⟨84, 1, cells, 0⟩ :: L) (.tup [])
      (a0 :: a1 :: bxS [c0, c1, c2, c3, wq, .sl ((L ++ [(⟨84, 1, [.sl 7 0 out.length], 0⟩ : Reg)]).length + 9) 0 (n + 1), c6, c7, c8, c9] :: a3 :: a4 :: a5 :: a6 :: rwR out :: ⟨84, 1, cells, 2⟩ :: (L ++ [⟨84, 1, [.sl 7 0 out.length], 0⟩] ++ [⟨84, 1, cells ++ [.sl 7 0 out.length], 0⟩])) true := by
  subst hn
  refine zw [] Go.Proofs.Try.func60 rfl rfl ?_
  simp only [Go.Proofs.Try.ntmps60, List.length_cons, List.length_nil, Nat.reduceAdd, Nat.reduceSub, List.replicate_succ, List.replicate_zero, List.cons_append, List.nil_append]
  repeat' first | refine zK ?_ | refine zA ?_ | (refine isA ?_; refine zf rfl ?_) | (refine isL ?_; refine zU rfl (by kernel_rfl) rfl rfl ?_) | (refine zb rfl ?_; refine zT rfl (by kernel_rfl) rfl rfl ?_) | refine zD ?_ | refine zB _ rfl (by kernel_rfl) ?_ | refine zV rfl ?_ | refine zW rfl ?_ | refine zC ?_ | with_reducible refine zO ?_ | refine zH ?_ | refine zI ?_ | (with_reducible first | refine zM ?_ | refine zN ?_ | refine zE ?_ | refine zG ?_ | refine zF ?_) | refine zP ?_
  refine ur 14 (fun H => H[2]? = some (bxS [c0, c1, c2, c3, .sl 7 0 out.length, .sl 8 0 cells.length, c6, c7, c8, c9])) 15 rfl ?_
  refine ye 0 (Or.inr rfl) rfl rfl (by kernel_rfl) rfl (fun _ => rfl) rfl ?_
  refine ye 1 (Or.inr rfl) rfl rfl (by kernel_rfl) rfl (fun _ => rfl) rfl ?_
  refine ye 2 (Or.inr rfl) rfl rfl (by kernel_rfl) rfl (fun _ => rfl) rfl ?_
  refine ye 3 (Or.inr rfl) rfl rfl (by kernel_rfl) rfl (fun _ => rfl) rfl ?_
  refine uP 4 rfl (by kernel_rfl) rfl (by kernel_rfl) rfl (fun _ hG => xl rfl rfl hG rfl rfl) rfl ?_
  refine ye 5 (Or.inr rfl) rfl rfl (by kernel_rfl) rfl (fun _ => rfl) rfl ?_
  refine ye 6 (Or.inr rfl) rfl rfl (by kernel_rfl) rfl (fun _ => rfl) rfl ?_
  refine ye 7 (Or.inr rfl) rfl rfl (by kernel_rfl) rfl (fun _ => rfl) rfl ?_
  refine uP 8 rfl (by kernel_rfl) rfl (by kernel_rfl) rfl (fun _ hG => xl rfl rfl hG rfl rfl) rfl ?_
  refine ye 9 (Or.inr rfl) rfl rfl (by kernel_rfl) rfl (fun _ => rfl) rfl ?_
  refine x3 10 (by kernel_rfl) rfl rfl rfl (Or.inr rfl) rfl ?_
  refine wo 11 (by kernel_rfl) rfl rfl (ap_c rfl rfl rfl rfl (zp rfl) rfl hl) (Or.inr rfl) rfl ?_
  refine ye 12 (Or.inr rfl) rfl rfl (by kernel_rfl) rfl (fun _ => rfl) rfl ?_
  refine ye 13 (Or.inr rfl) rfl rfl (by kernel_rfl) rfl (fun _ => rfl) rfl ?_
  refine x3 14 (by kernel_rfl) rfl rfl rfl (Or.inl (by kernel_rfl)) rfl ?_
  refine vH (by kernel_rfl) ?_
  repeat' first | refine zK ?_ | refine zA ?_ | refine zL [] ?_ | (refine isA ?_; refine zf rfl ?_) | (refine isL ?_; refine zU rfl (by kernel_rfl) rfl rfl ?_) | (refine zb rfl ?_; refine zT rfl (by kernel_rfl) rfl rfl ?_) | refine zD ?_ | refine zB _ rfl (by kernel_rfl) ?_ | refine zV rfl ?_ | refine zW rfl ?_ | refine zC ?_ | with_reducible refine zO ?_ | refine zH ?_ | refine zI ?_ | (with_reducible first | refine zM ?_ | refine zN ?_ | refine zE ?_ | refine zG ?_ | refine zF ?_) | refine zP ?_
  exact fq (Or.inr rfl) rfl
theorem nJ (a0 a1 : Reg) (c0 c1 c2 c3 c4 c6 c7 c8 c9 : V) (h5 o5 n5 : Nat) (L : List Reg) :
    zy Go.Proofs.Try.prog 63 [.ptr 2 0] (a0 :: a1 :: bxS [c0, c1, c2, c3, c4, .sl h5 o5 n5, c6, c7, c8, c9] :: L) (.tup [])
      (a0 :: a1 :: bxS [c0, c1, c2, c3, c4, .sl h5 o5 n5, I 0, I 0, I (cond (decide (n5 = 0)) 4 (cond (decide (n5 = 1)) 3 2)), c9] :: L) true := by
  have e0 : decide (n5 = 0) = decide ((n5 : Int) = 0) := decide_eq_decide.2 (by omega)
  have e1 : decide (n5 = 1) = decide ((n5 : Int) = 1) := decide_eq_decide.2 (by omega)
  rw [e0, e1]
  refine zw [] Go.Proofs.Try.func63 rfl rfl ?_
  simp only [Go.Proofs.Try.ntmps63, List.length_cons, List.length_nil, Nat.reduceAdd, Nat.reduceSub, List.replicate_succ, List.replicate_zero, List.cons_append, List.nil_append]
  repeat' first | refine zK ?_ | refine zA ?_ | refine zL [] ?_ | (refine isA ?_; refine zf rfl ?_) | (refine isL ?_; refine zU rfl (by kernel_rfl) rfl rfl ?_) | (refine zb rfl ?_; refine zT rfl (by kernel_rfl) rfl rfl ?_) | refine zD ?_ | refine zB _ rfl (by kernel_rfl) ?_ | refine zV rfl ?_ | refine zW rfl ?_ | refine zC ?_ | with_reducible refine zO ?_ | refine zH ?_ | refine zI ?_ | (with_reducible first | refine zM ?_ | refine zN ?_ | refine zE ?_ | refine zG ?_ | refine zF ?_) | refine zP ?_ | refine zd rfl (fun hbr => ?_) (fun hbr => ?_)
  all_goals (refine fq (Or.inr rfl) ?_; simp only [*, cond_true, cond_false])
end Go.Proofs.Ytojcojanokhnaaa.Ab
namespace Go.Proofs.Ytojcojanokhnaaa.Ab
open Go.RowKit
theorem pL {ψ hs : List Nat} {rs : List Rn} {z : Rn} {k : Nat} (hψ : ψ = hs ++ (List.range' 9 rs.length ++ [k])) (h9 : hs.length = 9) : Les ψ (nC 9 (rs ++ [z])) (nC 9 rs ++ [.sl k 0 z.length]) := by
  have e : nC 9 rs ++ [.sl k 0 z.length] = nX (List.range' 9 rs.length ++ [k]) (rs ++ [z]) := by
    rw [eJ (by simp), ff]; rfl
  rw [e]
  refine kH (by simp) fun j hj => ?_
  rw [hψ, ← h9, eH]
theorem sv {H : List Reg} {rs : List Rn} {z : Rn} {k : Nat} (hR : ∀ j x, rs[j]? = some x → H[9 + j]? = some (rwR x)) (hz : H[k]? = some (rwR z)) : ∀ (j i : Nat) (x : Rn), (List.range' 9 rs.length ++ [k])[j]? = some i → (rs ++ [z])[j]? = some x → H[i]? = some (rwR x) := fun j i x hi hx => by
  rcases Nat.lt_or_ge j rs.length with h | h
  · rw [List.getElem?_append_left (by simpa using h)] at hi
    rw [List.getElem?_append_left h] at hx
    rw [ix9 hi]
    exact hR j x hx
  · rw [List.getElem?_append_right h] at hx
    rw [List.getElem?_append_right (by simpa using h), List.length_range'] at hi
    cases hj : j - rs.length with
    | zero =>
      rw [hj] at hi hx
      cases hi
      cases hx
      exact hz
    | succ q =>
      rw [hj] at hx
      simp at hx
theorem sF {hs : List Nat} {n k : Nat} (h1 : (k :: hs).Nodup) (h2 : ∀ h ∈ k :: hs, h < 9 ∨ 9 + n ≤ h) : (hs ++ (List.range' 9 n ++ [k])).Nodup := by
  rw [List.nodup_cons] at h1
  rw [List.nodup_append]
  refine ⟨h1.2, ?_, fun x hx y hy => ?_⟩
  · rw [List.nodup_append]
    refine ⟨List.nodup_range', by simp, fun x hx y hy => ?_⟩
    rw [List.mem_range'_1] at hx
    simp at hy
    have := h2 k (by simp)
    omega
  · rw [List.mem_append, List.mem_range'_1, List.mem_singleton] at hy
    have := h2 x (by simp [hx])
    rcases hy with hy | hy
    · omega
    · rintro rfl
      subst hy
      exact h1.1 hx
theorem eZ (s : So) (g : Int) (hok : okSo s) (hb : VBa s) (hm : yv s ≤ 60) (hp : s.ph = 1) (hf : uL s g) (hh : s.heap = []) (hd : 0 < s.dfr.length) : AW Go.Proofs.Try.prog pH (stQ s (yf s) g []) (stT s s g []) := by
  have g2 := hok.dfr
  have g4 := hok.out
  have g5 := hok.runs
  have hh0 : s.heap.length = 0 := by rw [hh]; rfl
  have ae := pf (bxS (soE s)) (bxS zS) (rwR []) (rwR s.input) (rwR s.heap) (rwR s.dfr) (.sl 4 0 s.input.length) (I s.pos) (.sl 5 0 s.heap.length) (.sl 6 0 s.dfr.length) (I s.lp) (I s.rp) (I s.ph) (I s.wr) s.out (nC 9 s.runs) s.runs.length (wH _ _) (nR rwT 78 s.runs) (by omega)
  repeat' first | (refine zd rfl (fun _ => ?_) (fun h => absurd hp (of_decide_eq_false h))) | (refine uu 10 (T10 s g) (xt ?_) ?_) | (refine yW rfl rfl (fun _ => ?_) (fun h => absurd (of_decide_eq_false h) (by omega))) | (refine zd rfl (fun _ => ?_) (fun h => absurd (of_decide_eq_false h) (by omega))) | refine zK ?_ | refine zA ?_ | refine zL [] ?_ | (refine isA ?_; refine zf rfl ?_) | (refine isL ?_; refine zU rfl (by kernel_rfl) rfl rfl ?_) | (refine zb rfl ?_; refine zT rfl (by kernel_rfl) rfl rfl ?_) | (refine zu 60 ?_; refine zc rfl (yT rfl ae rfl) rfl ?_) | (refine zv 60 rfl ?_; refine zX rfl (by kernel_rfl) rfl (yT rfl ae rfl) rfl ?_) | refine zD ?_ | refine zB _ rfl (by kernel_rfl) ?_ | refine zV rfl ?_ | refine zW rfl ?_ | refine zC ?_ | with_reducible refine zO ?_ | refine zH ?_ | refine zI ?_ | (with_reducible first | refine zM ?_ | refine zN ?_ | refine zE ?_ | refine zG ?_ | refine zF ?_) | refine zP ?_
  · exact we (ti s g hok hb hm hf)
  · refine And.intro rfl (Sub.trans (Sub.trans ?_ (tb (l' := _) 78 3 (.rest _) (.cons (.rest _) (.cons (.rest _) (.cons (.cons (.same _) (.cons (.same _) (.cons (.same _) (.cons (.same _) (.cons .nil (.rest _)))))) (.rest _)))))) (tb (l' := _) 78 3 (.rest _) (.cons (.rest _) (.cons (.rest _) (.cons (.cons (.same _) (.cons (.same _) (.cons (.same _) (.cons .nil (.rest _))))) (.rest _))))))
    refine vN [0, 1, 2, 3, 4, 6, s.runs.length + 2 + 9, s.runs.length + 3 + 9, s.runs.length + 1 + 9] (List.range' 9 s.runs.length ++ [7]) rfl (by simp [yf]) (sF (by simp <;> omega) (fun h hh => by simp at hh; omega)) ?_ (sv (fun j x hx => tC (zh (zh (zh (zh (xX hx)))))) rfl) (by repeat' first | exact zg | refine zZ ?_ ?_ | exact zo | exact le_refl rfl | exact zj rfl rfl | exact zt rfl | exact zt (congrArg some (by simp [zm] <;> omega)) | exact zj rfl (by simp) | exact zj (congrArg some (by simp [zm] <;> omega)) rfl | exact zj (congrArg some (by simp [zm] <;> omega)) (by simp [yf, endV, yQ]) | exact z8 (congrArg _ (by assumption)) | exact z8 (congrArg _ (Eq.symm (by assumption))))
    refine .cons rfl rfl rfl rfl (z6 rfl) (.cons rfl rfl rfl rfl (z6 rfl) (.cons rfl rfl rfl rfl ?_ (.cons rfl rfl rfl rfl (zY (zJ _ _)) (.cons rfl rfl rfl rfl (zY (zJ _ _)) (.cons rfl rfl rfl rfl (zY (zJ _ _)) (.cons (yO (zh (zp xm))) rfl rfl rfl (zY (zJ _ _)) (.cons (yO (zp x4)) rfl rfl rfl (zY (zJ _ _)) (.cons (yO (zh (zh (zp xn)))) rfl rfl rfl (pL rfl rfl) .nil))))))))
    exact (by repeat' first | exact zg | refine zZ ?_ ?_ | exact zo | exact le_refl rfl | exact zj rfl rfl | exact zt rfl | exact zt (congrArg some (by simp [zm] <;> omega)) | exact zj rfl (by simp) | exact zj (congrArg some (by simp [zm] <;> omega)) rfl | exact zj (congrArg some (by simp [zm] <;> omega)) (by simp [yf, endV, yQ]) | exact z8 (congrArg _ (by assumption)) | exact z8 (congrArg _ (Eq.symm (by assumption))))
theorem fB (s : So) (g : Int) (hok : okSo s) (hb : VBa s) (hm : yv s ≤ 60) (hp : s.ph = 1) (hf : uL s g) (hh : s.heap = []) (hd : s.dfr = []) : AW Go.Proofs.Try.prog pH (stQ s (yQ (x5 s)) g []) (stT s s g []) := by
  have g2 := hok.dfr
  have g4 := hok.out
  have g5 := hok.runs
  have hh0 : s.heap.length = 0 := by rw [hh]; rfl
  have hd0 : s.dfr.length = 0 := by rw [hd]; rfl
  rcases Nat.eq_zero_or_pos s.out.length with h0 | h0
  · have e : yQ (x5 s) = { s with lp := 0, rp := 0, ph := cond (decide (s.runs.length = 0)) 4 (cond (decide (s.runs.length = 1)) 3 2) } := by
      rw [x5, decide_eq_false (by omega), cond_false, yQ]
    rw [e]
    have an := nJ (bxS (soE s)) (bxS zS) (.sl 4 0 s.input.length) (I s.pos) (.sl 5 0 s.heap.length) (.sl 6 0 s.dfr.length) (.sl 7 0 s.out.length) (I s.lp) (I s.rp) (I s.ph) (I s.wr) 8 0 s.runs.length (rwR [] :: soR 4 s)
    repeat' first | (refine zd rfl (fun _ => ?_) (fun h => absurd hp (of_decide_eq_false h))) | (refine uu 10 (T10 s g) (xt ?_) ?_) | (refine yW rfl rfl (fun _ => ?_) (fun h => absurd (of_decide_eq_false h) (by omega))) | (refine zd rfl (fun h => absurd (of_decide_eq_true h) (by omega)) (fun _ => ?_)) | refine zK ?_ | refine zA ?_ | refine zL [] ?_ | (refine isA ?_; refine zf rfl ?_) | (refine isL ?_; refine zU rfl (by kernel_rfl) rfl rfl ?_) | (refine zb rfl ?_; refine zT rfl (by kernel_rfl) rfl rfl ?_) | (refine zu 63 ?_; refine zc rfl (yT rfl an rfl) rfl ?_) | (refine zv 63 rfl ?_; refine zX rfl (by kernel_rfl) rfl (yT rfl an rfl) rfl ?_) | refine zD ?_ | refine zB _ rfl (by kernel_rfl) ?_ | refine zV rfl ?_ | refine zW rfl ?_ | refine zC ?_ | with_reducible refine zO ?_ | refine zH ?_ | refine zI ?_ | (with_reducible first | refine zM ?_ | refine zN ?_ | refine zE ?_ | refine zG ?_ | refine zF ?_) | refine zP ?_
    · exact we (ti s g hok hb hm hf)
    · exact And.intro rfl (vN [0, 1, 2, 3, 4, 5, 6, 7, 8] (List.range' 9 s.runs.length) rfl (by simp) (xG (by simp <;> omega) (fun h hh => by simp at hh; omega)) (by repeat' first | exact HLes.nil | refine HLes.cons rfl rfl rfl rfl (zY (zJ _ _)) ?_ | refine HLes.cons rfl rfl rfl rfl (z6 rfl) ?_ | refine HLes.cons rfl rfl rfl rfl (ws (fun j hj => w7 _ 9 _ j hj)) ?_ | refine HLes.cons (yO (zp wC)) rfl rfl rfl (zY (zJ _ _)) ?_ | refine HLes.cons (yO (zp xn)) rfl rfl rfl (zY (zJ _ _)) ?_ | refine HLes.cons (yO (zp xm)) rfl rfl rfl (zY (zJ _ _)) ?_ | refine HLes.cons (yO (zp x4)) rfl rfl rfl (zY (zJ _ _)) ?_ | refine HLes.cons (yO (zh (zp wC))) rfl rfl rfl (zY (zJ _ _)) ?_ | refine HLes.cons (yO (zh (zp xn))) rfl rfl rfl (zY (zJ _ _)) ?_ | refine HLes.cons (yO (zh (zp xm))) rfl rfl rfl (zY (zJ _ _)) ?_ | refine HLes.cons (yO (zh (zp x4))) rfl rfl rfl (zY (zJ _ _)) ?_ | refine HLes.cons (yO (zh (zh (zp wC)))) rfl rfl rfl (zY (zJ _ _)) ?_ | refine HLes.cons (yO (zh (zh (zp xn)))) rfl rfl rfl (zY (zJ _ _)) ?_ | refine HLes.cons (yO (zh (zh (zp xm)))) rfl rfl rfl (zY (zJ _ _)) ?_ | refine HLes.cons (yO (zh (zh (zp x4)))) rfl rfl rfl (zY (zJ _ _)) ?_ | refine HLes.cons rfl rfl rfl rfl (by repeat' first | exact zg | refine zZ ?_ ?_ | exact zo | exact le_refl rfl | exact zj rfl rfl | exact zt rfl | exact zt (congrArg some (by simp [zm] <;> omega)) | exact zj rfl (by simp) | exact zj (congrArg some (by simp [zm] <;> omega)) rfl | exact zj (congrArg some (by simp [zm] <;> omega)) (by simp [yf, endV, yQ]) | exact z8 (congrArg _ (by assumption)) | exact z8 (congrArg _ (Eq.symm (by assumption)))) ?_) (fun j i x hi hx => by rw [ix9 hi]; exact tC (xX hx)) (by repeat' first | exact zg | refine zZ ?_ ?_ | exact zo | exact le_refl rfl | exact zj rfl rfl | exact zt rfl | exact zt (congrArg some (by simp [zm] <;> omega)) | exact zj rfl (by simp) | exact zj (congrArg some (by simp [zm] <;> omega)) rfl | exact zj (congrArg some (by simp [zm] <;> omega)) (by simp [yf, endV, yQ]) | exact z8 (congrArg _ (by assumption)) | exact z8 (congrArg _ (Eq.symm (by assumption)))))
  · have e : yQ (x5 s) = { s with runs := s.runs ++ [s.out], out := [], lp := 0, rp := 0, ph := cond (decide (s.runs.length + 1 = 0)) 4 (cond (decide (s.runs.length + 1 = 1)) 3 2) } := by
      rw [x5, decide_eq_true h0, cond_true, yQ, endV]
      simp
    rw [e]
    have ae := pf (bxS (soE s)) (bxS zS) (rwR []) (rwR s.input) (rwR s.heap) (rwR s.dfr) (.sl 4 0 s.input.length) (I s.pos) (.sl 5 0 s.heap.length) (.sl 6 0 s.dfr.length) (I s.lp) (I s.rp) (I s.ph) (I s.wr) s.out (nC 9 s.runs) s.runs.length (wH _ _) (nR rwT 78 s.runs) (by omega)
    repeat' first | (refine zd rfl (fun _ => ?_) (fun h => absurd hp (of_decide_eq_false h))) | (refine uu 10 (T10 s g) (xt ?_) ?_) | (refine yW rfl rfl (fun _ => ?_) (fun h => absurd (of_decide_eq_false h) (by omega))) | (refine zd rfl (fun h => absurd (of_decide_eq_true h) (by omega)) (fun _ => ?_)) | (refine zd rfl (fun _ => ?_) (fun h => absurd (of_decide_eq_false h) (by omega))) | refine zK ?_ | refine zA ?_ | refine zL [] ?_ | (refine isA ?_; refine zf rfl ?_) | (refine isL ?_; refine zU rfl (by kernel_rfl) rfl rfl ?_) | (refine zb rfl ?_; refine zT rfl (by kernel_rfl) rfl rfl ?_) | (refine zu 60 ?_; refine zc rfl (yT rfl ae rfl) rfl ?_) | (refine zv 60 rfl ?_; refine zX rfl (by kernel_rfl) rfl (yT rfl ae rfl) rfl ?_) | (refine zu 63 ?_; refine zc rfl (yT rfl (nJ _ _ _ _ _ _ _ _ _ _ _ _ _ _ _) rfl) rfl ?_) | (refine zv 63 rfl ?_; refine zX rfl (by kernel_rfl) rfl (yT rfl (nJ _ _ _ _ _ _ _ _ _ _ _ _ _ _ _) rfl) rfl ?_) | refine zD ?_ | refine zB _ rfl (by kernel_rfl) ?_ | refine zV rfl ?_ | refine zW rfl ?_ | refine zC ?_ | with_reducible refine zO ?_ | refine zH ?_ | refine zI ?_ | (with_reducible first | refine zM ?_ | refine zN ?_ | refine zE ?_ | refine zG ?_ | refine zF ?_) | refine zP ?_
    · exact we (ti s g hok hb hm hf)
    · refine And.intro rfl (Sub.trans ?_ (tb (l' := _) 78 3 (.rest _) (.cons (.rest _) (.cons (.rest _) (.cons (.cons (.same _) (.cons (.same _) (.cons (.same _) (.cons (.same _) (.cons .nil (.rest _)))))) (.rest _))))))
      refine vN [0, 1, 2, 3, 4, 5, 6, s.runs.length + 2 + 9, s.runs.length + 1 + 9] (List.range' 9 s.runs.length ++ [7]) rfl (by simp) (sF (by simp <;> omega) (fun h hh => by simp at hh; omega)) ?_ (sv (fun j x hx => tC (zh (zh (zh (xX hx))))) rfl) (by repeat' first | exact zg | refine zZ ?_ ?_ | exact zo | exact le_refl rfl | exact zj rfl rfl | exact zt rfl | exact zt (congrArg some (by simp [zm] <;> omega)) | exact zj rfl (by simp) | exact zj (congrArg some (by simp [zm] <;> omega)) rfl | exact zj (congrArg some (by simp [zm] <;> omega)) (by simp [yf, endV, yQ]) | exact z8 (congrArg _ (by assumption)) | exact z8 (congrArg _ (Eq.symm (by assumption))))
      refine .cons rfl rfl rfl rfl (z6 rfl) (.cons rfl rfl rfl rfl (z6 rfl) (.cons rfl rfl rfl rfl ?_ (.cons rfl rfl rfl rfl (zY (zJ _ _)) (.cons rfl rfl rfl rfl (zY (zJ _ _)) (.cons rfl rfl rfl rfl (zY (zJ _ _)) (.cons rfl rfl rfl rfl (zY (zJ _ _)) (.cons (yO (zp xm)) rfl rfl rfl (zY (zJ _ _)) (.cons (yO (zh (zp xn))) rfl rfl rfl (pL rfl rfl) .nil))))))))
      exact (by repeat' first | exact zg | refine zZ ?_ ?_ | exact zo | exact le_refl rfl | exact zj rfl rfl | exact zt rfl | exact zt (congrArg some (by simp [zm] <;> omega)) | exact zj rfl (by simp) | exact zj (congrArg some (by simp [zm] <;> omega)) rfl | exact zj (congrArg some (by simp [zm] <;> omega)) (by simp [yf, endV, yQ]) | exact z8 (congrArg _ (by assumption)) | exact z8 (congrArg _ (Eq.symm (by assumption))))
end Go.Proofs.Ytojcojanokhnaaa.Ab
namespace Go.Proofs.Ytojcojanokhnaaa.Ab
open Go.RowKit
theorem get7 {a0 a1 a2 a3 a4 a5 a6 x : Reg} {L : List Reg} {j : Nat} (h : L[j]? = some x) : (a0 :: a1 :: a2 :: a3 :: a4 :: a5 :: a6 :: L)[7 + j]? = some x := by
  rw [Nat.add_comm]; exact h
theorem ix7 {n j i : Nat} (h : (List.range' 7 n)[j]? = some i) : i = 7 + j := by
  rw [List.getElem?_range'] at h
  · have := Option.some.inj h; omega
  · exact Nat.lt_of_not_le fun hn => by rw [List.getElem?_eq_none (by simpa using hn)] at h; cases h
theorem jt (s x : So) (g : Int) (r : List Rw) (hok : okSo s) (hv : vS s = true) (h1 : inV g 8 60 = true) (hp : s.ph ≠ 4) (h : AW Go.Proofs.Try.prog pH (stQ s x g r) (stT s s g [])) : zy Go.Proofs.Try.prog 13 [.agg (soE s), I g] [] (.tup [.agg (soO 1 x), .sl 0 0 r.length, B true]) (rwR r :: soR 1 x) false := by
  have hfl : ∀ q ∈ rwR r :: soR 1 x, q.mode ≠ 1 ∧ (q.mode = 0 → uM q.cells) := fun q hq => by
    rcases List.mem_cons.1 hq with rfl | hq
    · exact vG _
    · exact qz _ _ q hq
  have a1 := js s hok
  rw [hv] at a1
  have a2 := tJ g
  rw [h1] at a2
  refine yV 4 27 [5, 6] Go.Proofs.Try.func13 rfl rfl rfl ?_
  simp only [Go.Proofs.Try.ntmps13, List.length_cons, List.length_nil, Nat.reduceAdd, Nat.reduceSub, List.replicate_succ, List.replicate_zero, List.cons_append, List.nil_append]
  repeat' first | (refine nK 5 (stT s s g []) (stT s x g r) (xt ?_) (xt ?_) ?_) | (exact absurd (of_decide_eq_true ‹decide (s.ph = 4) = true›) hp) | refine zK ?_ | refine zA ?_ | refine zL [] ?_ | (refine isA ?_; refine zf rfl ?_) | (refine isL ?_; refine zU rfl (by kernel_rfl) rfl rfl ?_) | (refine zb rfl ?_; refine zT rfl (by kernel_rfl) rfl rfl ?_) | (refine zu 56 ?_; refine zc rfl (yA (r' := .agg (soO 2 s)) (H' := bxS (soE s) :: bxS zS :: soR 2 s) rfl (sW s hok) (.cons (.same rfl) .nil) (ls 0 2 s) (by rw [lr]; rfl)) rfl ?_) | (refine zv 56 rfl ?_; refine zX rfl (by kernel_rfl) rfl (yA (r' := .agg (soO 2 s)) (H' := bxS (soE s) :: bxS zS :: soR 2 s) rfl (sW s hok) (.cons (.same rfl) .nil) (ls 0 2 s) (by rw [lr]; rfl)) rfl ?_) | (refine kK (x := .tmp 7) ?_; refine zc rfl (xj (vs := soO 2 s) rfl rfl rfl rfl (fun c hc => by simp at hc; rcases hc with rfl | rfl | rfl | rfl | rfl | rfl | rfl | rfl | rfl | rfl <;> rfl) (zp rfl) rfl (Nat.le_refl _)) rfl ?_) | (refine kJ (x := .tmp 7) rfl ?_; refine zX rfl (by kernel_rfl) rfl (xj (vs := soO 2 s) rfl rfl rfl rfl (fun c hc => by simp at hc; rcases hc with rfl | rfl | rfl | rfl | rfl | rfl | rfl | rfl | rfl | rfl <;> rfl) (zp rfl) rfl (Nat.le_refl _)) rfl ?_) | (refine zu 17 ?_; refine zc rfl (zQ rfl a1 (.cons (.same rfl) .nil) rfl) rfl ?_) | (refine zv 17 rfl ?_; refine zX rfl (by kernel_rfl) rfl (zQ rfl a1 (.cons (.same rfl) .nil) rfl) rfl ?_) | (refine zu 57 ?_; refine zc rfl (zQ rfl a2 (.cons (.same rfl) .nil) rfl) rfl ?_) | (refine zv 57 rfl ?_; refine zX rfl (by kernel_rfl) rfl (zQ rfl a2 (.cons (.same rfl) .nil) rfl) rfl ?_) | refine zD ?_ | refine zB _ rfl (by kernel_rfl) ?_ | refine zV rfl ?_ | refine zW rfl ?_ | refine zC ?_ | with_reducible refine zO ?_ | refine zH ?_ | refine zI ?_ | (with_reducible first | refine zM ?_ | refine zN ?_ | refine zE ?_ | refine zG ?_ | refine zF ?_) | refine zP ?_ | refine zd rfl (fun hbr => ?_) (fun hbr => ?_)
  · refine we ?_
    rw [t6 rfl]
    have kl : (bxS (soE s) :: bxS zS :: soR 2 s).length = s.runs.length + 7 := by simp [zm]
    refine vN [0, 1, s.runs.length + 7, s.runs.length + 8, 2, 3, 4, 5, 6] (List.range' 7 s.runs.length) rfl (by simp) (xG (by simp <;> omega) (fun h hh => by simp at hh; omega)) ?_ (fun j i x hi hx => by rw [ix7 hi]; exact zh (zh (get7 (xX hx)))) (by repeat' first | exact zg | refine zZ ?_ ?_ | exact zo | exact le_refl rfl | exact zj rfl rfl | exact zt rfl | exact zt (congrArg some (by simp [zm] <;> omega)) | exact zj rfl (by simp) | exact zj (congrArg some (by simp [zm] <;> omega)) rfl | exact zj (congrArg some (by simp [zm] <;> omega)) (by simp [yf, endV, yQ]) | exact z8 (congrArg _ (by assumption)) | exact z8 (congrArg _ (Eq.symm (by assumption))))
    refine .cons rfl rfl rfl rfl (z6 rfl) (.cons rfl rfl rfl rfl (z6 rfl) (.cons (zh (zp kl)) rfl rfl rfl ?_ (.cons (zp (by rw [List.length_append, kl]; rfl)) rfl rfl rfl zg (.cons rfl rfl rfl rfl (zY (zJ _ _)) (.cons rfl rfl rfl rfl (zY (zJ _ _)) (.cons rfl rfl rfl rfl (zY (zJ _ _)) (.cons rfl rfl rfl rfl (zY (zJ _ _)) (.cons rfl rfl rfl rfl (ws fun j hj => w7 [0, 1, s.runs.length + 7, s.runs.length + 8, 2, 3, 4, 5, 6] 7 _ j hj) .nil))))))))
    exact (by repeat' first | exact zg | refine zZ ?_ ?_ | exact zo | exact le_refl rfl | exact zj rfl rfl | exact zt rfl | exact zt (congrArg some (by simp [zm] <;> omega)) | exact zj rfl (by simp) | exact zj (congrArg some (by simp [zm] <;> omega)) rfl | exact zj (congrArg some (by simp [zm] <;> omega)) (by simp [yf, endV, yQ]) | exact z8 (congrArg _ (by assumption)) | exact z8 (congrArg _ (Eq.symm (by assumption))))
  · exact we h
  · exact go ([3, 4, 5, 6, 7, 8] ++ List.range' 9 x.runs.length) (yS rfl rfl rfl rfl rfl) (nD (zZ (qX (by repeat' first | exact zg | refine zZ ?_ ?_ | exact zo | exact le_refl rfl | exact zj rfl rfl | exact zt rfl | exact zt (congrArg some (by simp [zm] <;> omega)) | exact zj rfl (by simp) | exact zj (congrArg some (by simp [zm] <;> omega)) rfl | exact zj (congrArg some (by simp [zm] <;> omega)) (by simp [yf, endV, yQ]) | exact z8 (congrArg _ (by assumption)) | exact z8 (congrArg _ (Eq.symm (by assumption))))) (zZ (zj rfl rfl) (zZ (le_refl rfl) zg)))) (sP (hs := [3, 4, 5, 6, 7, 8]) (K1 := [rwR r, rwR x.input, rwR x.heap, rwR x.dfr, rwR x.out, ⟨84, 1, nC 6 x.runs, 0⟩]) (xG (by decide) (fun h hh => by simp at hh; omega)) (.cons rfl rfl rfl rfl (zY (zJ _ _)) (.cons rfl rfl rfl rfl (zY (zJ _ _)) (.cons rfl rfl rfl rfl (zY (zJ _ _)) (.cons rfl rfl rfl rfl (zY (zJ _ _)) (.cons rfl rfl rfl rfl (zY (zJ _ _)) (.cons rfl rfl rfl rfl (ws fun j hj => w7 [3, 4, 5, 6, 7, 8] 9 _ j hj) .nil)))))) (fun j x hx => tC (xX hx))) (Or.inr ⟨rfl, hfl⟩)
theorem ju (s x : So) (g : Int) (r : List Rw) (hok : okSo s) (hv : vS s = true) (h1 : inV g 8 60 = true) (hp : s.ph ≠ 4) (h : AW Go.Proofs.Try.prog pH (stQ s x g r) (stT s s g [])) : zy Go.Proofs.Try.prog 13 [.agg (soE s), I g] [] (.tup [.agg (soE x), rwL r, B true]) [] true :=
  (jt s x g r hok hv h1 hp h).frozen (.tup (.cons (sB rfl rfl rfl rfl rfl fun j y hy => by rw [Nat.add_comm]; exact xX hy) (.cons (zq rfl) (.cons (.same rfl) .nil))))
theorem ey (s x : So) (g : Int) (r : List Rw) (hok : okSo s) (hv : vS s = true) (hp : s.ph = 1) (h : StepV s g x r) : AW Go.Proofs.Try.prog pH (stQ s x g r) (stT s s g []) := by
  have hV := wE.1 hv
  cases hV with
  | read b q =>
    have hm : yv s ≤ 60 := by rw [tS q.ph]; exact q.mem
    cases h with
    | put _ hr hf => exact c_put s g _ hok b hm hp hr hf
    | pop _ hf hh hk hr => exact c_pop s g _ _ hok b hm hp hf hh hk hr
    | swap _ hf hh hd => exact eZ s g hok b hm hp hf hh hd
    | close _ hf hh hd => exact fB s g hok b hm hp hf hh hd
    | merged h2 => omega
    | left h2 => omega
    | right h2 => omega
    | emit h2 => omega
  | merge b t ph => omega
  | emit b t ph => omega
  | done b t ph => omega
theorem sU (s x : So) (g : Int) (r : List Rw) (hok : okSo s) (hv : vS s = true) (h1 : inV g 8 60 = true) (hp : s.ph = 1) (h : StepV s g x r) : zy Go.Proofs.Try.prog 13 [.agg (soE s), I g] [] (.tup [.agg (soE x), rwL r, B true]) [] true :=
  ju s x g r hok hv h1 (by omega) (ey s x g r hok hv hp h)
end Go.Proofs.Ytojcojanokhnaaa.Ab
namespace Go.Proofs.Ytojcojanokhnaaa.Ab
open Go.RowKit
theorem VwS.app {H : List Reg} : ∀ (cs : List V) {ds es : List V}, VwS H ds es → VwS H (cs ++ ds) (cs ++ es)
  | [], _, _, h => h
  | c :: cs, _, _, h => .cons (.same c) (VwS.app cs h)
abbrev rnR (rs : List Rn) : Reg := xL rnT 84 rs
theorem tM {o : Oper} {ρ : Operand → V} {H : List Reg} {h hz zi n : Nat} {s x : Operand} {outs : List Rn} (ho : o.op = .call { callee := .builtin .append, args := #[s, x], argTypes := #[25, 25] })
    (hs : ρ s = .sl h 0 outs.length) (hH0 : H[h]? = some (rnR outs)) (hx : ρ x = .sl hz 0 1) (hzz : H[hz]? = some ⟨84, 1, [.sl zi 0 n], 0⟩) (hl : outs.length ≤ 10000000) :
    z7 Go.Proofs.Try.prog o ρ H (.sl H.length 0 (outs.length + 1)) (H.set h ⟨84, 1, rnT.flat outs, 2⟩ ++ [⟨84, 1, rnT.flat outs ++ [.sl zi 0 n], 0⟩]) := by
  have hsrc : Src H (ρ x) 1 [.sl zi 0 n] := by
    rw [hx]
    have := Src.sl (H := H) (off := 0) (m := 1) (r := ⟨84, 1, [.sl zi 0 n], 0⟩) hzz (Nat.zero_le _) (Nat.le_refl _)
    exact this
  have hH : H[h]? = some ⟨84, 1, rnT.flat outs, 0⟩ := hH0
  have fl : (rnT.flat outs).length = outs.length := by rw [yH]; show outs.length * 1 = _; omega
  have := ww (P := Go.Proofs.Try.prog) (ρ := ρ) (ty := 25) (m := 1) ho hs hH rfl rfl rfl (by show outs.length * 1 ≤ (rnT.flat outs).length; omega) hsrc rfl (fun c hc => by simp at hc; subst hc; rfl) (by omega) (by simp only [maxLen]; omega)
  have e1 : (⟨84, 1, rnT.flat outs, 0⟩ : Reg).cells.take (outs.length * 1) = rnT.flat outs := by
    show (rnT.flat outs).take _ = _
    rw [List.take_of_length_le]; omega
  rw [e1] at this
  exact this
theorem nq {ψ : List Nat} : ∀ {cs ds es fs : List V}, Les ψ cs ds → Les ψ es fs → Les ψ (cs ++ es) (ds ++ fs)
  | [], ds, es, fs, h, k => by
    have := xR h
    rw [List.eq_nil_of_length_eq_zero (show ds.length = 0 from this)]
    exact k
  | c :: cs, ds, es, fs, h, k => by
    rw [Les] at h
    obtain ⟨d, ds', rfl, h1, h2⟩ := h
    exact zZ h1 (nq h2 k)
theorem tF (outs : List Rn) (run : Rn) : rnT.flat (outs ++ [run]) = rnT.flat outs ++ [rwL run] := by rw [wz]; rfl
theorem lJ {l : List V} {outs : List Rn} {run : Rn} (hl : Les [0] l l) :
    Sub ⟨l, [rnR (outs ++ [run])], 0⟩ ⟨l, [⟨84, 1, rnT.flat outs ++ [.sl 1 0 run.length], 0⟩, rwR run], 0⟩ := by
  refine Sub.trans ?_ (tO (h := 1) (r := rwR run) rfl rfl (Nat.zero_le _) (fun i hi => absurd hi (Nat.not_lt_zero _)))
  refine Sub.trans ?_ (lI (l' := l) (K := [rnR (outs ++ [run]), { rwR run with mode := 1 }]) (.rest _) (.cons ?_ (.rest _)))
  · exact yb [0] rfl rfl (by decide) (.cons rfl rfl rfl rfl (zY (zJ _ _)) .nil) hl
  · rw [tF]
    exact VwS.app _ (.cons (.pur (.sl (r := { rwR run with mode := 1 }) rfl (Or.inl rfl) (zJ _ _) (show 0 < 3 by omega) (by show (0 + run.length) * 3 ≤ (rwT.flat run).length; rw [yH]; show _ ≤ run.length * 3; omega) (by show rwT.flat run = ((rwT.flat run).drop (0 * 3)).take (run.length * 3); rw [Nat.zero_mul, List.drop_zero, List.take_of_length_le (by rw [yH]; exact Nat.le_refl _)]))) (.rest _))
theorem sA {live : Bool} {H : List Reg} : ∀ {cs ds es fs : List V}, Purs live H cs ds → Purs live H es fs → Purs live H (cs ++ es) (ds ++ fs)
  | _, _, _, _, .nil, k => k
  | _, _, _, _, .cons h hs, k => .cons h (sA hs k)
theorem u6 {live : Bool} {H : List Reg} : ∀ {cs : List V}, NoH cs → Purs live H cs cs
  | [], _ => .nil
  | c :: cs, h => .cons (.same (h c (List.mem_cons_self ..))) (u6 fun d hd => h d (List.mem_cons_of_mem _ hd))
theorem yL {H : List Reg} {h zi ty : Nat} {outs : List Rn} {run : Rn} (hH : H[h]? = some ⟨ty, 1, rnT.flat outs ++ [.sl zi 0 run.length], 0⟩) (hz : H[zi]? = some (rwR run)) : Pur true H (.sl h 0 (outs.length + 1)) (rnL (outs ++ [run])) := by
  have fl : (rnT.flat outs).length = outs.length := by rw [yH]; show outs.length * 1 = _; omega
  have e : (outs ++ [run]).length = outs.length + 1 := by simp
  rw [← e]
  refine .slN hH (Or.inr ⟨rfl, rfl⟩) (Nat.lt_succ_self 0) (by simp only [List.length_append, fl, List.length_singleton]; omega) ?_
  have q : (List.take ((outs ++ [run]).length * 1) (List.drop (0 * 1) (rnT.flat outs ++ [.sl zi 0 run.length]))) = rnT.flat outs ++ [.sl zi 0 run.length] := by
    rw [Nat.zero_mul, List.drop_zero, List.take_of_length_le (by simp only [List.length_append, fl, List.length_singleton]; omega)]
  show Purs true H (List.take ((outs ++ [run]).length * 1) (List.drop (0 * 1) (rnT.flat outs ++ [.sl zi 0 run.length]))) (rnT.flat (outs ++ [run]))
  rw [q, tF]
  exact sA (u6 (zJ _ _)) (.cons (zq hz) .nil)
theorem m9 (rs : List Rn) (hok : tZ rs) (hl : rs.length ≤ 10000000) : zy Go.Proofs.Try.prog 118 [rnL rs] [] (.sl 0 0 rs.length) [rnR rs] true := by
  refine zw [2] Go.Proofs.Try.func118 rfl rfl ?_
  simp only [Go.Proofs.Try.ntmps118, List.length_cons, List.length_nil, Nat.reduceAdd, Nat.reduceSub, List.replicate_succ, List.replicate_zero, List.cons_append, List.nil_append]
  repeat' first | refine zK ?_ | refine zA ?_ | refine zL [] ?_ | (refine isA ?_; refine zf rfl ?_) | (refine isL ?_; refine zU rfl (by kernel_rfl) rfl rfl ?_) | (refine zb rfl ?_; refine zT rfl (by kernel_rfl) rfl rfl ?_) | refine zD ?_ | refine zB _ rfl (by kernel_rfl) ?_ | refine zV rfl ?_ | refine zW rfl ?_ | refine zC ?_ | with_reducible refine zO ?_ | refine zH ?_ | refine zI ?_ | (with_reducible first | refine zM ?_ | refine zN ?_ | refine zE ?_ | refine zG ?_ | refine zF ?_) | refine zP ?_
  refine z9 (α := { i : Nat // i ≤ rs.length }) (fun i => ⟨[rnL rs, .any, .any, .sl 0 0 (rs.take i.1).length, I i.1, .any, .any, .any, .any, .any, .any, .any, .any, .any, .any, .any, .any, .any, .any, .any, .any, .any, .any, .any], [rnR (rs.take i.1)], 0⟩) (fun i => rs.length - i.1) ⟨0, Nat.zero_le _⟩ ?_ ?_
  · exact yb [0] rfl rfl (by decide) (by repeat' first | exact HLes.nil | refine HLes.cons rfl rfl rfl rfl ?_ ?_ | exact zg | refine zZ ?_ ?_ | exact zo | exact le_refl rfl | exact zj rfl rfl | exact zt rfl) (by repeat' first | exact zg | refine zZ ?_ ?_ | exact zo | exact le_refl rfl | exact zj rfl rfl | exact zt rfl)
  · rintro ⟨i, hi⟩
    repeat' first | refine zK ?_ | refine zA ?_ | refine zL [] ?_ | (refine isA ?_; refine zf rfl ?_) | (refine isL ?_; refine zU rfl (by kernel_rfl) rfl rfl ?_) | (refine zb rfl ?_; refine zT rfl (by kernel_rfl) rfl rfl ?_) | refine zD ?_ | refine zB _ rfl (by kernel_rfl) ?_ | refine zV rfl ?_ | refine zW rfl ?_ | refine zC ?_ | with_reducible refine zO ?_ | refine zH ?_ | refine zI ?_ | (with_reducible first | refine zM ?_ | refine zN ?_ | refine zE ?_ | refine zG ?_ | refine zF ?_) | refine zP ?_
    refine zd rfl (fun h => ?_) (fun h => ?_)
    · have hlt : i < rs.length := by simpa using h
      obtain ⟨x, hx⟩ : ∃ x, rs[i]? = some x := ⟨_, List.getElem?_eq_getElem hlt⟩
      have hxl := hok.at hx
      repeat' first | refine zK ?_ | refine zA ?_ | refine zL [] ?_ | (refine isA ?_; refine zf rfl ?_) | (refine isL ?_; refine zU rfl (by kernel_rfl) rfl rfl ?_) | (refine zb rfl ?_; refine zT rfl (by kernel_rfl) rfl rfl ?_) | (refine yG (x := .tmp 14) ?_; refine zc rfl (z5 (t := rnT) (z := x) rfl rfl rfl rfl (Int.natCast_nonneg i) hx) rfl ?_) | (refine yF (x := .tmp 14) rfl ?_; refine zX rfl (by kernel_rfl) rfl (z5 (t := rnT) (z := x) rfl rfl rfl rfl (Int.natCast_nonneg i) hx) rfl ?_) | (refine xU ?_; refine zc rfl (yX (t := rwT) (xs := []) (ys := x) rfl rfl rfl rfl (.lst _ _) (by simp; omega) rfl) rfl ?_) | (refine y9 rfl ?_; refine zX rfl (by kernel_rfl) rfl (yX (t := rwT) (xs := []) (ys := x) rfl rfl rfl rfl (.lst _ _) (by simp; omega) rfl) rfl ?_) | (refine xU ?_; refine zc rfl (tM (outs := rs.take i) (hz := 3) (zi := 2) (n := x.length) rfl rfl rfl rfl rfl (by simp; omega)) rfl ?_) | (refine y9 rfl ?_; refine zX rfl (by kernel_rfl) rfl (tM (outs := rs.take i) (hz := 3) (zi := 2) (n := x.length) rfl rfl rfl rfl rfl (by simp; omega)) rfl ?_) | refine zD ?_ | refine zB _ rfl (by kernel_rfl) ?_ | refine zV rfl ?_ | refine zW rfl ?_ | refine zC ?_ | with_reducible refine zO ?_ | refine zH ?_ | refine zI ?_ | (with_reducible first | refine zM ?_ | refine zN ?_ | refine zE ?_ | refine zG ?_ | refine zF ?_) | refine zP ?_
      refine ⟨⟨i + 1, hlt⟩, by simp only; omega, ?_⟩
      simp only
      rw [yo hx]
      refine Sub.trans (lJ (outs := rs.take i) (run := x) (by repeat' first | exact zg | refine zZ ?_ ?_ | exact zo | exact le_refl rfl | exact zj rfl rfl | exact zt rfl)) ?_
      exact yb [4, 2] rfl rfl (by decide) (.cons rfl rfl rfl rfl (nq (zY (zJ _ _)) (zZ (zj rfl rfl) zg)) (.cons rfl rfl rfl rfl (zY (zJ _ _)) .nil)) (by
        repeat' first | exact zg | refine zZ ?_ ?_ | exact zo | exact le_refl rfl | exact zj rfl rfl | exact zj rfl (by simp) | exact xI (by assumption) (by omega))
    · have hge : i = rs.length := by
        have : ¬ ((i : Int) < rs.length) := by simpa using h
        omega
      subst hge
      have e : rs.take rs.length = rs := List.take_length
      repeat' first | refine zK ?_ | refine zA ?_ | refine zL [] ?_ | (refine isA ?_; refine zf rfl ?_) | (refine isL ?_; refine zU rfl (by kernel_rfl) rfl rfl ?_) | (refine zb rfl ?_; refine zT rfl (by kernel_rfl) rfl rfl ?_) | refine zD ?_ | refine zB _ rfl (by kernel_rfl) ?_ | refine zV rfl ?_ | refine zW rfl ?_ | refine zC ?_ | with_reducible refine zO ?_ | refine zH ?_ | refine zI ?_ | (with_reducible first | refine zM ?_ | refine zN ?_ | refine zE ?_ | refine zG ?_ | refine zF ?_) | refine zP ?_
      exact tH 0 [0] (fun i hi => absurd hi (Nat.not_lt_zero _)) (by decide) rfl (zj rfl (congrArg List.length e)) (.cons rfl rfl rfl rfl (by show Les _ (rnT.flat rs) (rnT.flat (rs.take rs.length)); rw [e]; exact zY (zJ _ _)) .nil)
abbrev soP (b : Nat) (s : So) : List V := [.sl b 0 s.input.length, I s.pos, .sl (b + 1) 0 s.heap.length, .sl (b + 2) 0 s.dfr.length, .sl (b + 3) 0 s.out.length, .sl (b + 4) 0 s.runs.length, I s.lp, I s.rp, I s.ph, I s.wr]
abbrev soW (s : So) : List Reg := [rwR s.input, rwR s.heap, rwR s.dfr, rwR s.out, rnR s.runs]
theorem xV (s : So) (hok : okSo s) : zy Go.Proofs.Try.prog 65 [.agg (soE s)] [] (.agg (soP 0 s)) (soW s) true := by
  have g1 := hok.input
  have g2 := hok.heap
  have g3 := hok.dfr
  have g4 := hok.out
  have g5 := hok.runs
  have a1 := m9 s.runs hok.rn (by omega)
  refine xo 2 27 Go.Proofs.Try.func65 rfl rfl ?_
  simp only [Go.Proofs.Try.ntmps65, List.length_cons, List.length_nil, Nat.reduceAdd, Nat.reduceSub, List.replicate_succ, List.replicate_zero, List.cons_append, List.nil_append]
  repeat' first | refine zK ?_ | refine zA ?_ | refine zL [] ?_ | (refine isA ?_; refine zf rfl ?_) | (refine isL ?_; refine zU rfl (by kernel_rfl) rfl rfl ?_) | (refine zb rfl ?_; refine zT rfl (by kernel_rfl) rfl rfl ?_) | (refine xU ?_; refine zc rfl (yX (t := rwT) (xs := []) (ys := s.input) rfl rfl rfl rfl (.lst _ _) (by simp; omega) rfl) rfl ?_) | (refine y9 rfl ?_; refine zX rfl (by kernel_rfl) rfl (yX (t := rwT) (xs := []) (ys := s.input) rfl rfl rfl rfl (.lst _ _) (by simp; omega) rfl) rfl ?_) | (refine xU ?_; refine zc rfl (yX (t := rwT) (xs := []) (ys := s.heap) rfl rfl rfl rfl (.lst _ _) (by simp; omega) rfl) rfl ?_) | (refine y9 rfl ?_; refine zX rfl (by kernel_rfl) rfl (yX (t := rwT) (xs := []) (ys := s.heap) rfl rfl rfl rfl (.lst _ _) (by simp; omega) rfl) rfl ?_) | (refine xU ?_; refine zc rfl (yX (t := rwT) (xs := []) (ys := s.dfr) rfl rfl rfl rfl (.lst _ _) (by simp; omega) rfl) rfl ?_) | (refine y9 rfl ?_; refine zX rfl (by kernel_rfl) rfl (yX (t := rwT) (xs := []) (ys := s.dfr) rfl rfl rfl rfl (.lst _ _) (by simp; omega) rfl) rfl ?_) | (refine xU ?_; refine zc rfl (yX (t := rwT) (xs := []) (ys := s.out) rfl rfl rfl rfl (.lst _ _) (by simp; omega) rfl) rfl ?_) | (refine y9 rfl ?_; refine zX rfl (by kernel_rfl) rfl (yX (t := rwT) (xs := []) (ys := s.out) rfl rfl rfl rfl (.lst _ _) (by simp; omega) rfl) rfl ?_) | (refine zu 118 ?_; refine zc rfl (yd rfl a1 (.cons (.same rfl) .nil) (fun q hq => by simp at hq; subst hq; exact zJ _ _) rfl rfl) rfl ?_) | (refine zv 118 rfl ?_; refine zX rfl (by kernel_rfl) rfl (yd rfl a1 (.cons (.same rfl) .nil) (fun q hq => by simp at hq; subst hq; exact zJ _ _) rfl rfl) rfl ?_) | refine zD ?_ | refine zB _ rfl (by kernel_rfl) ?_ | refine zV rfl ?_ | refine zW rfl ?_ | refine zC ?_ | with_reducible refine zO ?_ | refine zH ?_ | refine zI ?_ | (with_reducible first | refine zM ?_ | refine zN ?_ | refine zE ?_ | refine zG ?_ | refine zF ?_) | refine zP ?_
  exact finMC [4, 6, 8, 10, 11] (by decide) (yS rfl rfl rfl rfl rfl) (qX (by repeat' first | exact zg | refine zZ ?_ ?_ | exact zo | exact le_refl rfl | exact zj rfl rfl | exact zt rfl | exact zt (congrArg some (by simp [zm] <;> omega)) | exact zj rfl (by simp) | exact zj (congrArg some (by simp [zm] <;> omega)) rfl | exact zj (congrArg some (by simp [zm] <;> omega)) (by simp [yf, endV, yQ]) | exact z8 (congrArg _ (by assumption)) | exact z8 (congrArg _ (Eq.symm (by assumption))))) (.cons rfl rfl rfl rfl (zY (zJ _ _)) (.cons rfl rfl rfl rfl (zY (zJ _ _)) (.cons rfl rfl rfl rfl (zY (zJ _ _)) (.cons rfl rfl rfl rfl (zY (zJ _ _)) (.cons rfl rfl rfl rfl (zY (zJ _ _)) .nil)))))
end Go.Proofs.Ytojcojanokhnaaa.Ab
namespace Go.Proofs.Ytojcojanokhnaaa.Ab
open Go.RowKit
theorem l8 {h m : Nat} {R : Reg} {c0 c1 d0 d1 : V} {cs ds es fs : List V} {S : St} (hm0 : S.m = 0) (hH : S.H[h]? = some R) (hR : R.mode = 0) (hN : NoH R.cells)
    (p0 : Pur true (S.H.set h (xY R)) c0 d0) (p1 : Pur true (S.H.set h (xY R)) c1 d1) (ps : Purs true (S.H.set h (xY R)) cs ds) (pe : Purs true (S.H.set h (xY R)) es fs) :
    Out true (.tup (.agg (d0 :: d1 :: .sl 0 0 m :: ds) :: fs)) [R] (.tup (.agg (c0 :: c1 :: .sl h 0 m :: cs) :: es)) S := by
  intro C A φ w x hm hA hv
  have h0 : C.φ0 = [] := List.length_eq_zero_iff.1 (hm.trans hm0)
  have hlt : h < S.H.length := (List.getElem?_eq_some_iff.1 hH).1
  obtain ⟨hd, hhd⟩ : ∃ hd, φ[h]? = some hd := ⟨_, List.getElem?_eq_getElem (by rw [hA.ok.len]; exact hlt)⟩
  have hget : ∀ (i : Nat) (q : Reg), (S.H.set h (xY R))[i]? = some q → q.mode ≤ 1 → i ≠ h ∧ S.H[i]? = some q := fun i q hq hm1 => by
    rw [List.getElem?_set] at hq
    split at hq
    · rename_i e
      subst e
      simp only [Option.some.injEq] at hq
      subst hq
      exact absurd (show (2 : Nat) ≤ 1 from hm1) (by decide)
    · rename_i e
      exact ⟨fun e1 => e e1.symm, hq⟩
  have hlive : ∀ i b, zz φ (S.H.set h (xY R)) i b → i ≠ h ∧ zz φ S.H i b := fun i b ⟨e, q, q1, q2, q3, q4⟩ =>
    have := hget i q q2 (by omega)
    ⟨this.1, e, q, q1, this.2, q3, q4⟩
  have kd : HeapOk A w φ (S.H.set h (xY R)) := ⟨by rw [hA.ok.len, List.length_set], fun i e q q1 q2 q3 => hA.ok.regs i e q q1 (hget i q q2 q3).2 q3, fun i j b q1 q2 => hA.ok.inj i j b (hlive i b q1).2 (hlive j b q2).2, fun i b q1 => hA.ok.apart i b (hlive i b q1).2, fun i e q b q1 q2 q3 q4 => hA.ok.frz i e q b q1 (hget i q q2 (by omega)).2 q3 q4, hA.ok.low⟩
  have hone : ∀ i b, zz [hd] [R] i b → zz φ S.H h b := fun i b ⟨e, q, q1, q2, q3, q4⟩ => by
    match i, q1, q2 with
    | 0, q1, q2 =>
      simp only [List.getElem?_cons_zero, Option.some.injEq] at q1 q2
      subst q1 q2
      exact ⟨_, _, hhd, hH, q3, q4⟩
  have hPm : ∀ {v v' : V} {y : Value}, Pur true (S.H.set h (xY R)) v v' → Rel A w φ v y → Rel (fun b => A b ∨ ∃ i, zz φ (S.H.set h (xY R)) i b) w [hd] v' y := fun hp hy =>
    Rel.mono (fun b hb => ⟨hb, rfl⟩) (fun j e hj => by simp at hj) (Pur.rel kd (fun b hb => Or.inl hb) (fun _ j b hb => Or.inr ⟨j, hb⟩) hp hy)
  have hPs : ∀ {v v' : List V} {g : Nat → Option Value}, Purs true (S.H.set h (xY R)) v v' → zx A w φ v g → zx (fun b => A b ∨ ∃ i, zz φ (S.H.set h (xY R)) i b) w [hd] v' g := fun hp hy =>
    zx.mono (fun b hb => ⟨hb, rfl⟩) (fun j e hj => by simp at hj) (Purs.rels kd (fun b hb => Or.inl hb) (fun _ j b hb => Or.inr ⟨j, hb⟩) hp hy)
  have hlen1 := ps.length
  have hlen2 := pe.length
  refine ⟨[hd], fun b => A b ∨ ∃ i, zz φ (S.H.set h (xY R)) i b, ⟨rfl, fun i e q q1 q2 q3 => ?_, fun i j b q1 q2 => ?_, fun i b q1 hb => ?_, fun i e q b q1 q2 q3 q4 => ?_, fun b hb => ?_⟩, ?_, fun b hb => ?_, fun i b q1 => hA.own h b (hone i b q1), fun i e h1 => by rw [h0] at h1; simp at h1⟩
  · match i, q1, q2 with
    | 0, q1, q2 =>
      simp only [List.getElem?_cons_zero, Option.some.injEq] at q1 q2
      subst q1 q2
      obtain ⟨e1, e2⟩ := hA.ok.regs h _ _ hhd hH q3
      refine ⟨e1, ?_⟩
      cases hk : hd.blk with
      | none => rw [hk] at e2; exact e2
      | some b =>
        rw [hk] at e2
        obtain ⟨c, f1, f2, f3, f4⟩ := e2
        exact ⟨c, f1, f2, f3, zx.mono (fun b hb => ⟨Or.inl hb, rfl⟩) (fun _ _ h => h) (xd hN f4)⟩
  · have e1 := (List.getElem?_eq_some_iff.1 q1.choose_spec.choose_spec.1).1
    have e2 := (List.getElem?_eq_some_iff.1 q2.choose_spec.choose_spec.1).1
    simp only [List.length_singleton] at e1 e2
    omega
  · have hl := hone i b q1
    rcases hb with hb | ⟨j, hb⟩
    · exact hA.ok.apart h b hl hb
    · have := hlive j b hb
      exact this.1 (hA.ok.inj j h b this.2 hl)
  · match i, q1, q2 with
    | 0, q1, q2 =>
      simp only [List.getElem?_cons_zero, Option.some.injEq] at q2
      subst q2
      rw [hR] at q3
      cases q3
  · rcases hb with hb | ⟨j, hb⟩
    · exact hA.ok.low b hb
    · obtain ⟨g1, e, q, g2, g3, g4, g5⟩ := hlive j b hb
      exact xi hA.ok g2 g3 (by omega) g5
  · simp only [Rel, zx] at hv ⊢
    obtain ⟨xs, rfl, hs, ⟨y, hy, zs, rfl, hz, ⟨y0, z0, k0⟩, ⟨y1, z1, k1⟩, ⟨y2, z2, k2⟩, kr⟩, hr⟩ := hv
    refine ⟨xs, rfl, by rw [hs]; simp only [List.length_cons]; omega, ⟨_, hy, zs, rfl, by rw [hz]; simp only [List.length_cons]; omega, ⟨y0, z0, hPm p0 k0⟩, ⟨y1, z1, hPm p1 k1⟩, ⟨y2, z2, ?_⟩, hPs ps kr⟩, hPs pe hr⟩
    obtain ⟨hd', e1, e2⟩ := k2
    rw [hhd] at e1
    simp only [Option.some.injEq] at e1
    subst e1
    exact ⟨hd, rfl, e2⟩
  · rcases hb with hb | ⟨j, hb⟩
    · exact (hA.old b hb).imp (fun h => ⟨rfl, h⟩) id
    · obtain ⟨g1, g2⟩ := hlive j b hb
      rcases hA.own j b g2 with h1 | ⟨h9, e, q, q1, _⟩
      · exact Or.inr h1
      · rw [h0] at q1
        simp at q1
theorem xS {l : List V} {H : List Reg} {t : Tmp} {us : List Tmp} {n h m : Nat} {R : Reg} {c0 c1 d0 d1 : V} {cs ds fs : List V} (hv : CellIs l H t n (.agg (c0 :: c1 :: .sl h 0 m :: cs))) (hH : H[h]? = some R) (hR : R.mode = 0) (hN : NoH R.cells)
    (p01 : Purs true (H.set h (xY R)) [c0, c1] [d0, d1]) (ps : Purs true (H.set h (xY R)) cs ds) (pe : Purs true (H.set h (xY R)) (us.map fun u => (l[u]?).getD .any) fs) :
    (Exit.ret = .ret ∨ Exit.ret = .normal) ∧ ∃ v, CellIs l H t n v ∧ Out true (.tup (.agg (d0 :: d1 :: .sl 0 0 m :: ds) :: fs)) [R] (.tup (v :: us.map fun u => (l[u]?).getD .any)) ⟨l, H, 0⟩ :=
  match p01 with
  | .cons p0 (.cons p1 .nil) => ⟨Or.inl rfl, _, hv, l8 (S := ⟨l, H, 0⟩) rfl hH hR hN p0 p1 ps pe⟩
end Go.Proofs.Ytojcojanokhnaaa.Ab
namespace Go.Proofs.Ytojcojanokhnaaa.Ab
open Go.RowKit
theorem yk {live : Bool} {H : List Reg} {a b : Int} (h : a = b) : Pur live H (I a) (I b) := by subst h; exact .same rfl
def soH (s : So) : List V := [rwL s.input, I s.pos, .sl 0 0 s.heap.length, rwL s.dfr, rwL s.out, rnL s.runs, I s.lp, I s.rp, I s.ph, I s.wr]
theorem gd (s : So) (r : List Rw) (b : Bool) : Pur true [rwR s.heap] (.tup [.agg (soH s), rwL r, B b]) (.tup [.agg (soE s), rwL r, B b]) := .tup (.cons (.agg (.cons (.same rfl) (.cons (.same rfl) (.cons (zq rfl) (.cons (.same rfl) (.cons (.same rfl) (.cons (.same rfl) (.cons (.same rfl) (.cons (.same rfl) (.cons (.same rfl) (.cons (.same rfl) .nil))))))))))) (.cons (.same rfl) (.cons (.same rfl) .nil)))
theorem s_put (s : So) (g : Int) (r : Rw) (hok : okSo s) (hv : vS s = true) (h1 : inV g 8 60 = true) (hb : VBa s) (hm : yv s ≤ 60) (hp : s.ph = 1) (hr : s.input[s.pos.toNat]? = some r) (hf : yv s + yx r ≤ g) : zy Go.Proofs.Try.prog 14 [.agg (soE s), I g] [] (.tup [.agg (soH (wc s r)), rwL [], B true]) [rwR (wc s r).heap] true := by
  obtain ⟨p, hpp, hple⟩ := hb.pos
  have e1 : s.pos.toNat = p := by omega
  rw [e1] at hr
  have hlt := (List.getElem?_eq_some_iff.1 hr).1
  have g1 := hok.heap
  have g2 := hok.dfr
  have g3 := hok.input
  have g4 := hok.out
  have ac := xV s hok
  have am := qg s hok
  have a1 := vt s hok
  rw [hv] at a1
  have a2 := vT g 8 60
  rw [h1] at a2
  have ew : IntKind.i64.wrap (s.pos + 1) = s.pos + 1 := by rw [IntKind.wrap_i64]; omega
  refine yV 4 27 [5, 6] Go.Proofs.Try.func14 rfl rfl rfl ?_
  simp only [Go.Proofs.Try.ntmps14, List.length_cons, List.length_nil, Nat.reduceAdd, Nat.reduceSub, List.replicate_succ, List.replicate_zero, List.cons_append, List.nil_append]
  repeat' first | (refine zd rfl (fun h => absurd (of_decide_eq_true h) (by omega)) (fun _ => ?_)) | (refine zd rfl (fun _ => ?_) (fun h => absurd hp (of_decide_eq_false h))) | refine zK ?_ | refine zA ?_ | refine zL [] ?_ | (refine isA ?_; refine zf rfl ?_) | (refine isL ?_; refine zU rfl (by kernel_rfl) rfl rfl ?_) | (refine zb rfl ?_; refine zT rfl (by kernel_rfl) rfl rfl ?_) | (refine zu 65 ?_; refine zc rfl (yA (r' := .agg (soP 2 s)) (H' := bxS (soE s) :: bxS zS :: soW s) rfl ac (.cons (.same rfl) .nil) rfl (by simp only [List.map_cons, List.map_nil, shR, yC _ (yP (zJ _ _))]; rfl)) rfl ?_) | (refine zv 65 rfl ?_; refine zX rfl (by kernel_rfl) rfl (yA (r' := .agg (soP 2 s)) (H' := bxS (soE s) :: bxS zS :: soW s) rfl ac (.cons (.same rfl) .nil) rfl (by simp only [List.map_cons, List.map_nil, shR, yC _ (yP (zJ _ _))]; rfl)) rfl ?_) | (refine zu 18 ?_; refine zc rfl (zQ rfl a1 (.cons (.same rfl) .nil) rfl) rfl ?_) | (refine zv 18 rfl ?_; refine zX rfl (by kernel_rfl) rfl (zQ rfl a1 (.cons (.same rfl) .nil) rfl) rfl ?_) | (refine zu 66 ?_; refine zc rfl (zQ rfl a2 (.cons (.same rfl) (.cons (.same rfl) (.cons (.same rfl) .nil))) rfl) rfl ?_) | (refine zv 66 rfl ?_; refine zX rfl (by kernel_rfl) rfl (zQ rfl a2 (.cons (.same rfl) (.cons (.same rfl) (.cons (.same rfl) .nil))) rfl) rfl ?_) | refine zD ?_ | refine zB _ rfl (by kernel_rfl) ?_ | refine zV rfl ?_ | refine zW rfl ?_ | refine zC ?_ | with_reducible refine zO ?_ | refine zH ?_ | refine zI ?_ | (with_reducible first | refine zM ?_ | refine zN ?_ | refine zE ?_ | refine zG ?_ | refine zF ?_) | refine zP ?_
  refine yI rfl rfl rfl rfl (fun _ => ?_) (fun h => absurd (of_decide_eq_false h) (by omega))
  repeat' first | refine zK ?_ | refine zA ?_ | refine zL [] ?_ | (refine isA ?_; refine zf rfl ?_) | (refine isL ?_; refine zU rfl (by kernel_rfl) rfl rfl ?_) | (refine zb rfl ?_; refine zT rfl (by kernel_rfl) rfl rfl ?_) | (refine zu 20 ?_; refine zc rfl (zQ rfl am (.cons (.same rfl) .nil) rfl) rfl ?_) | (refine zv 20 rfl ?_; refine zX rfl (by kernel_rfl) rfl (zQ rfl am (.cons (.same rfl) .nil) rfl) rfl ?_) | (refine yG (x := .tmp 42) ?_; refine zc rfl (z5 (t := rwT) (z := r) rfl rfl rfl rfl (by omega) (by rw [e1]; exact hr)) rfl ?_) | (refine yF (x := .tmp 42) rfl ?_; refine zX rfl (by kernel_rfl) rfl (z5 (t := rwT) (z := r) rfl rfl rfl rfl (by omega) (by rw [e1]; exact hr)) rfl ?_) | (refine zu 67 ?_; refine zc rfl (zQ rfl (xq r) (.cons (.same rfl) .nil) rfl) rfl ?_) | (refine zv 67 rfl ?_; refine zX rfl (by kernel_rfl) rfl (zQ rfl (xq r) (.cons (.same rfl) .nil) rfl) rfl ?_) | refine zD ?_ | refine zB _ rfl (by kernel_rfl) ?_ | refine zV rfl ?_ | refine zW rfl ?_ | refine zC ?_ | with_reducible refine zO ?_ | refine zH ?_ | refine zI ?_ | (with_reducible first | refine zM ?_ | refine zN ?_ | refine zE ?_ | refine zG ?_ | refine zF ?_) | refine zP ?_
  refine zd rfl (fun _ => ?_) (fun h => absurd (of_decide_eq_false h) (by rw [qW hm]; omega))
  repeat' first | refine zK ?_ | refine zA ?_ | refine zL [] ?_ | (refine isA ?_; refine zf rfl ?_) | (refine isL ?_; refine zU rfl (by kernel_rfl) rfl rfl ?_) | (refine zb rfl ?_; refine zT rfl (by kernel_rfl) rfl rfl ?_) | (refine yG (x := .tmp 53) ?_; refine zc rfl (z5 (t := rwT) (z := r) rfl rfl rfl rfl (by omega) (by rw [e1]; exact hr)) rfl ?_) | (refine yF (x := .tmp 53) rfl ?_; refine zX rfl (by kernel_rfl) rfl (z5 (t := rwT) (z := r) rfl rfl rfl rfl (by omega) (by rw [e1]; exact hr)) rfl ?_) | (refine kK (x := .tmp 8) ?_; refine zc rfl (uz rfl rfl rfl rfl rfl (vy r) rfl rfl) rfl ?_) | (refine kJ (x := .tmp 8) rfl ?_; refine zX rfl (by kernel_rfl) rfl (uz rfl rfl rfl rfl rfl (vy r) rfl rfl) rfl ?_) | refine zD ?_ | refine zB _ rfl (by kernel_rfl) ?_ | refine zV rfl ?_ | refine zW rfl ?_ | refine zC ?_ | with_reducible refine zO ?_ | refine zH ?_ | refine zI ?_ | (with_reducible first | refine zM ?_ | refine zN ?_ | refine zE ?_ | refine zG ?_ | refine zF ?_) | refine zP ?_
  refine yI rfl rfl rfl rfl (fun h => ?_) (fun h => ?_)
  · have h0 : 0 < s.out.length := by have := of_decide_eq_true h; omega
    obtain ⟨y, hy⟩ : ∃ z, s.out[s.out.length - 1]? = some z := ⟨_, List.getElem?_eq_getElem (by omega)⟩
    have ew2 : IntKind.i64.wrap ((s.out.length : Int) - 1) = ((s.out.length - 1 : Nat) : Int) := by rw [IntKind.wrap_i64]; omega
    have hbe : bel r s.out = decide (yr r y < 0) := by unfold bel; rw [hy]; rfl
    repeat' first | refine zK ?_ | refine zA ?_ | refine zL [] ?_ | (refine isA ?_; refine zf rfl ?_) | (refine isL ?_; refine zU rfl (by kernel_rfl) rfl rfl ?_) | (refine zb rfl ?_; refine zT rfl (by kernel_rfl) rfl rfl ?_) | (refine yG (x := .tmp 69) ?_; refine zc rfl (z5 (t := rwT) (j := ((s.out.length - 1 : Nat) : Int)) (z := y) rfl rfl rfl (congrArg I ew2) (Int.natCast_nonneg _) hy) rfl ?_) | (refine yF (x := .tmp 69) rfl ?_; refine zX rfl (by kernel_rfl) rfl (z5 (t := rwT) (j := ((s.out.length - 1 : Nat) : Int)) (z := y) rfl rfl rfl (congrArg I ew2) (Int.natCast_nonneg _) hy) rfl ?_) | (refine zu 68 ?_; refine zc rfl (zQ rfl (xa r y) (.cons (.same rfl) (.cons (.same rfl) .nil)) rfl) rfl ?_) | (refine zv 68 rfl ?_; refine zX rfl (by kernel_rfl) rfl (zQ rfl (xa r y) (.cons (.same rfl) (.cons (.same rfl) .nil)) rfl) rfl ?_) | refine zD ?_ | refine zB _ rfl (by kernel_rfl) ?_ | refine zV rfl ?_ | refine zW rfl ?_ | refine zC ?_ | with_reducible refine zO ?_ | refine zH ?_ | refine zI ?_ | (with_reducible first | refine zM ?_ | refine zN ?_ | refine zE ?_ | refine zG ?_ | refine zF ?_) | refine zP ?_
    refine zd rfl (fun p2 => ?_) (fun p2 => ?_)
    · have e : wc s r = { s with dfr := s.dfr ++ [r], pos := s.pos + 1 } := by unfold wc; rw [hbe, p2]; rfl
      rw [e]
      repeat' first | (refine isA ?_; refine zc rfl (yN rfl rfl rfl rfl rfl) rfl ?_) | refine zK ?_ | refine zA ?_ | refine zL [] ?_ | (refine isA ?_; refine zf rfl ?_) | (refine isL ?_; refine zU rfl (by kernel_rfl) rfl rfl ?_) | (refine zb rfl ?_; refine zT rfl (by kernel_rfl) rfl rfl ?_) | (refine xU ?_; refine zc rfl (yX (t := rwT) (xs := s.dfr) (ys := [r]) rfl rfl rfl rfl (.lst _ _) (by simp; omega) rfl) rfl ?_) | (refine y9 rfl ?_; refine zX rfl (by kernel_rfl) rfl (yX (t := rwT) (xs := s.dfr) (ys := [r]) rfl rfl rfl rfl (.lst _ _) (by simp; omega) rfl) rfl ?_) | refine zD ?_ | refine zB _ rfl (by kernel_rfl) ?_ | refine zV rfl ?_ | refine zW rfl ?_ | refine zC ?_ | with_reducible refine zO ?_ | refine zH ?_ | refine zI ?_ | (with_reducible first | refine zM ?_ | refine zN ?_ | refine zE ?_ | refine zG ?_ | refine zF ?_) | refine zP ?_
      exact xS (yS rfl rfl rfl rfl rfl) rfl rfl (zJ _ _) (by repeat' first | exact Purs.nil | refine Purs.cons ?_ ?_ | exact zq rfl | exact yL rfl rfl | exact zq (T := rwT) (x := []) rfl | exact Pur.nil | exact Pur.same rfl | exact yk (by assumption)) (by repeat' first | exact Purs.nil | refine Purs.cons ?_ ?_ | exact zq rfl | exact yL rfl rfl | exact zq (T := rwT) (x := []) rfl | exact Pur.nil | exact Pur.same rfl | exact yk (by assumption)) (.cons (.same rfl) (.cons (.same rfl) .nil))
    · have e : wc s r = { s with heap := s.heap ++ [r], pos := s.pos + 1 } := by unfold wc; rw [hbe, p2]; rfl
      rw [e]
      repeat' first | (refine isA ?_; refine zc rfl (yN rfl rfl rfl rfl rfl) rfl ?_) | refine zK ?_ | refine zA ?_ | refine zL [] ?_ | (refine isA ?_; refine zf rfl ?_) | (refine isL ?_; refine zU rfl (by kernel_rfl) rfl rfl ?_) | (refine zb rfl ?_; refine zT rfl (by kernel_rfl) rfl rfl ?_) | (refine xU ?_; refine zc rfl (yX (t := rwT) (xs := s.heap) (ys := [r]) rfl rfl rfl rfl (.lst _ _) (by simp; omega) rfl) rfl ?_) | (refine y9 rfl ?_; refine zX rfl (by kernel_rfl) rfl (yX (t := rwT) (xs := s.heap) (ys := [r]) rfl rfl rfl rfl (.lst _ _) (by simp; omega) rfl) rfl ?_) | refine zD ?_ | refine zB _ rfl (by kernel_rfl) ?_ | refine zV rfl ?_ | refine zW rfl ?_ | refine zC ?_ | with_reducible refine zO ?_ | refine zH ?_ | refine zI ?_ | (with_reducible first | refine zM ?_ | refine zN ?_ | refine zE ?_ | refine zG ?_ | refine zF ?_) | refine zP ?_
      exact xS (yS rfl rfl rfl rfl rfl) rfl rfl (zJ _ _) (by repeat' first | exact Purs.nil | refine Purs.cons ?_ ?_ | exact zq rfl | exact yL rfl rfl | exact zq (T := rwT) (x := []) rfl | exact Pur.nil | exact Pur.same rfl | exact yk (by assumption)) (by repeat' first | exact Purs.nil | refine Purs.cons ?_ ?_ | exact zq rfl | exact yL rfl rfl | exact zq (T := rwT) (x := []) rfl | exact Pur.nil | exact Pur.same rfl | exact yk (by assumption)) (.cons (.same rfl) (.cons (.same rfl) .nil))
  · have hbe : bel r s.out = false := by
      rw [List.eq_nil_of_length_eq_zero (show s.out.length = 0 by have := of_decide_eq_false h; omega)]; rfl
    have e : wc s r = { s with heap := s.heap ++ [r], pos := s.pos + 1 } := by unfold wc; rw [hbe]; rfl
    rw [e]
    repeat' first | (refine isA ?_; refine zc rfl (yN rfl rfl rfl rfl rfl) rfl ?_) | refine zK ?_ | refine zA ?_ | refine zL [] ?_ | (refine isA ?_; refine zf rfl ?_) | (refine isL ?_; refine zU rfl (by kernel_rfl) rfl rfl ?_) | (refine zb rfl ?_; refine zT rfl (by kernel_rfl) rfl rfl ?_) | (refine xU ?_; refine zc rfl (yX (t := rwT) (xs := s.heap) (ys := [r]) rfl rfl rfl rfl (.lst _ _) (by simp; omega) rfl) rfl ?_) | (refine y9 rfl ?_; refine zX rfl (by kernel_rfl) rfl (yX (t := rwT) (xs := s.heap) (ys := [r]) rfl rfl rfl rfl (.lst _ _) (by simp; omega) rfl) rfl ?_) | refine zD ?_ | refine zB _ rfl (by kernel_rfl) ?_ | refine zV rfl ?_ | refine zW rfl ?_ | refine zC ?_ | with_reducible refine zO ?_ | refine zH ?_ | refine zI ?_ | (with_reducible first | refine zM ?_ | refine zN ?_ | refine zE ?_ | refine zG ?_ | refine zF ?_) | refine zP ?_
    exact xS (yS rfl rfl rfl rfl rfl) rfl rfl (zJ _ _) (by repeat' first | exact Purs.nil | refine Purs.cons ?_ ?_ | exact zq rfl | exact yL rfl rfl | exact zq (T := rwT) (x := []) rfl | exact Pur.nil | exact Pur.same rfl | exact yk (by assumption)) (by repeat' first | exact Purs.nil | refine Purs.cons ?_ ?_ | exact zq rfl | exact yL rfl rfl | exact zq (T := rwT) (x := []) rfl | exact Pur.nil | exact Pur.same rfl | exact yk (by assumption)) (.cons (.same rfl) (.cons (.same rfl) .nil))
end Go.Proofs.Ytojcojanokhnaaa.Ab
