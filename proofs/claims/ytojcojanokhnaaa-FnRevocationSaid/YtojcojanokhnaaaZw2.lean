/- What the row FnRevocation leans on, part 3: a walk over abstract values, and contracts proved with it. -/
import Derived.WalkKit
import Derived.Laws.Rows
import Derived.RowKit
import Derived.OrdersHeld
import Derived.Deep.RegionHeld3
import Derived.Deep.Draws
import Derived.BigCall
import Derived.KernelRfl
import Derived.Deep.Slices
import Derived.ChangeArms
import Derived.ChangeShapes
import Derived.WideShapes
import Derived.Test.YtojcojanokhnaaaProg
import Derived.Laws.StructEq
import Derived.Lib.Overlaps
import Derived.Test.YtojcojanokhnaaaZw1
set_option linter.unusedVariables false
set_option linter.unusedSimpArgs false
set_option maxRecDepth 20000
set_option maxHeartbeats 8000000
namespace Go.Proofs.Ytojcojanokhnaaa.Ab
open Go.RowKit
theorem vh {xs : List Rw} (h : Srt xs) {i j : Nat} {x y : Rw} (hij : i ≤ j) (hx : xs[i]? = some x) (hy : xs[j]? = some y) : leW x y := by
  rcases Nat.lt_or_eq_of_le hij with hlt | rfl
  · obtain ⟨h1, rfl⟩ := List.getElem?_eq_some_iff.1 hx
    obtain ⟨h2, rfl⟩ := List.getElem?_eq_some_iff.1 hy
    exact List.pairwise_iff_getElem.1 h i j h1 h2 hlt
  · rw [hx] at hy
    cases hy
    exact sM _
theorem nE {out : List Rw} {x : Rw} {k : Nat} (hs : Srt out) (hk : k ≤ out.length) (hB : ∀ j z, k ≤ j → out[j]? = some z → ¬ leW z x) (hA : ∀ z, 0 < k → out[k - 1]? = some z → leW z x) : out.take k ++ x :: out.drop k = uj x out := by
  have hA' : ∀ z ∈ out.take k, leW z x := fun z hz => by
    obtain ⟨j, hj⟩ := List.getElem?_of_mem hz
    have hlt : j < k := by
      have := (List.getElem?_eq_some_iff.1 hj).1
      simp at this
      omega
    rw [List.getElem?_take_of_lt hlt] at hj
    obtain ⟨y, hy⟩ : ∃ y, out[k - 1]? = some y := ⟨_, List.getElem?_eq_getElem (by omega)⟩
    exact xH (vh hs (show j ≤ k - 1 by omega) hj hy) (hA y (by omega) hy)
  have hB' : ∀ z ∈ out.drop k, leW x z := fun z hz => by
    obtain ⟨j, hj⟩ := List.getElem?_of_mem hz
    rw [List.getElem?_drop] at hj
    exact wd (hB (k + j) z (by omega) hj)
  refine vP ?_ (qZ x hs) ?_
  · have hs' : Srt (out.take k ++ out.drop k) := by rw [List.take_append_drop]; exact hs
    obtain ⟨q1, q2, q3⟩ := List.pairwise_append.1 hs'
    refine List.pairwise_append.2 ⟨q1, List.pairwise_cons.2 ⟨hB', q2⟩, fun a ha c hc => ?_⟩
    rcases List.mem_cons.1 hc with rfl | hc
    · exact hA' a ha
    · exact q3 a ha c hc
  · refine List.perm_middle.trans ?_
    rw [List.take_append_drop]
    exact (ui x out).symm
theorem nc {H : List Reg} {h k off m : Nat} {xs : List Rw} (hH : H[h]? = some (rwR xs)) (hk : k ≤ xs.length) (ho : off = k) (hm : m = xs.length - k) : Src H (.sl h off m) (xs.drop k).length (rwT.flat (xs.drop k)) := by
  subst ho hm
  have q := Src.sl (H := H) (h := h) (off := off) (m := xs.length - off) hH (Nat.zero_le _) (by show (off + (xs.length - off)) * 3 ≤ (rwT.flat xs).length; rw [yH]; show _ ≤ xs.length * 3; omega)
  have e : ((rwR xs).cells.drop (off * (rwR xs).esz)).take ((xs.length - off) * (rwR xs).esz) = rwT.flat (xs.drop off) := jh xs off
  rw [e] at q
  rw [List.length_drop]
  exact q
theorem ua {H : List Reg} {h k off m : Nat} {xs : List Rw} (hH : H[h]? = some (rwR xs)) (hk : k ≤ xs.length) (ho : off = 0) (hm : m = k) : Src H (.sl h off m) (xs.take k).length (rwT.flat (xs.take k)) := by
  subst ho hm
  have q := Src.sl (H := H) (h := h) (off := 0) (m := m) hH (Nat.zero_le _) (by show (0 + m) * 3 ≤ (rwT.flat xs).length; rw [yH]; show _ ≤ xs.length * 3; omega)
  have e : ((rwR xs).cells.drop (0 * (rwR xs).esz)).take (m * (rwR xs).esz) = rwT.flat (xs.take m) := lG xs m
  rw [e] at q
  rw [List.length_take, Nat.min_eq_left hk]
  exact q
theorem tc {H : List Reg} {h : Nat} {xs : List Rw} (hH : H[h]? = some (rwR xs)) : Src H (.sl h 0 xs.length) xs.length (rwT.flat xs) := by
  have q := ua (k := xs.length) hH (Nat.le_refl _) rfl rfl
  rw [List.take_length] at q
  exact q
theorem mJ (xs : List Rw) (hl : xs.length ≤ 100000000) : zy Go.Proofs.Try.prog 28 [rwL xs] [] (.sl 0 0 (yJ xs).length) [rwR (yJ xs)] false := by
  refine zw [2] Go.Proofs.Try.func28 rfl rfl ?_
  simp only [Go.Proofs.Try.ntmps28, List.length_cons, List.length_nil, Nat.reduceAdd, Nat.reduceSub, List.replicate_succ, List.replicate_zero, List.cons_append, List.nil_append]
  repeat' first | refine zK ?_ | refine zA ?_ | refine zL [] ?_ | (refine isA ?_; refine zf rfl ?_) | (refine isL ?_; refine zU rfl (by kernel_rfl) rfl rfl ?_) | (refine zb rfl ?_; refine zT rfl (by kernel_rfl) rfl rfl ?_) | refine zD ?_ | refine zB _ rfl (by kernel_rfl) ?_ | refine zV rfl ?_ | refine zW rfl ?_ | refine zC ?_ | with_reducible refine zO ?_ | refine zH ?_ | refine zI ?_ | (with_reducible first | refine zM ?_ | refine zN ?_ | refine zE ?_ | refine zG ?_ | refine zF ?_) | refine zP ?_
  refine z9 (α := { i : Nat // i ≤ xs.length }) (fun i => ⟨[rwL xs, .any, .any, .sl 0 0 (yJ (xs.take i.1)).length, I i.1, .any, .any, .any, .any, .any, .any, .any, .any, .any, .any, .any, .any, .any, .any, .any, .any, .any, .any, .any, .any, .any, .any, .any, .any, .any, .any, .any, .any, .any, .any, .any, .any, .any, .any, .any, .any, .any, .any, .any, .any, .any, .any, .any, .any, .any], [rwR (yJ (xs.take i.1))], 0⟩) (fun i => xs.length - i.1) ⟨0, Nat.zero_le _⟩ ?_ ?_
  · exact yb [0] rfl rfl (by decide) (.cons rfl rfl rfl rfl (zY (zJ _ _)) .nil) (by repeat' first | exact zg | refine zZ ?_ ?_ | exact zo | exact le_refl rfl | exact zj rfl rfl | exact zt rfl)
  · rintro ⟨i, hi⟩
    repeat' first | refine zK ?_ | refine zA ?_ | refine zL [] ?_ | (refine isA ?_; refine zf rfl ?_) | (refine isL ?_; refine zU rfl (by kernel_rfl) rfl rfl ?_) | (refine zb rfl ?_; refine zT rfl (by kernel_rfl) rfl rfl ?_) | refine zD ?_ | refine zB _ rfl (by kernel_rfl) ?_ | refine zV rfl ?_ | refine zW rfl ?_ | refine zC ?_ | with_reducible refine zO ?_ | refine zH ?_ | refine zI ?_ | (with_reducible first | refine zM ?_ | refine zN ?_ | refine zE ?_ | refine zG ?_ | refine zF ?_) | refine zP ?_
    refine zd rfl (fun h => ?_) (fun h => ?_)
    · have hlt : i < xs.length := by simpa using h
      obtain ⟨x, hx⟩ : ∃ z, xs[i]? = some z := ⟨_, List.getElem?_eq_getElem hlt⟩
      have e1 : yJ (xs.take (i + 1)) = uj x (yJ (xs.take i)) := by rw [List.take_add_one, hx]; exact sr _ _
      have hso := xE (xs.take i)
      have hol : (yJ (xs.take i)).length = i := by rw [wQ]; simp; omega
      generalize yJ (xs.take i) = out at e1 hso hol
      repeat' first | refine zK ?_ | refine zA ?_ | refine zL [] ?_ | (refine isA ?_; refine zf rfl ?_) | (refine isL ?_; refine zU rfl (by kernel_rfl) rfl rfl ?_) | (refine zb rfl ?_; refine zT rfl (by kernel_rfl) rfl rfl ?_) | refine zD ?_ | refine zB _ rfl (by kernel_rfl) ?_ | refine zV rfl ?_ | refine zW rfl ?_ | refine zC ?_ | with_reducible refine zO ?_ | refine zH ?_ | refine zI ?_ | (with_reducible first | refine zM ?_ | refine zN ?_ | refine zE ?_ | refine zG ?_ | refine zF ?_) | refine zP ?_
      refine z9 (α := { k : Nat // k ≤ out.length ∧ ∀ j z, k ≤ j → out[j]? = some z → ¬ leW z x }) (fun k => ⟨[rwL xs, .any, .any, .sl 0 0 out.length, I i, I k.1, .any, .any, .any, .any, .any, .any, .any, .any, .any, .any, .any, .any, .any, .any, .any, .any, .any, .any, .any, .any, .any, .any, .any, .any, .any, .any, .any, .any, .any, .any, .any, .any, .any, .any, .any, .any, .any, .any, .any, .any, .any, .any, .any, .any], [rwR out], 0⟩) (fun k => k.1) ⟨out.length, Nat.le_refl _, fun j z hj hz => absurd (List.getElem?_eq_some_iff.1 hz).1 (by omega)⟩ ?_ ?_
      · exact yb [0] rfl rfl (by decide) (.cons rfl rfl rfl rfl (zY (zJ _ _)) .nil) (by repeat' first | exact zg | refine zZ ?_ ?_ | exact zo | exact le_refl rfl | exact zj rfl rfl | exact zt rfl)
      · rintro ⟨k, hk, hB⟩
        repeat' first | refine zK ?_ | refine zA ?_ | refine zL [] ?_ | (refine isA ?_; refine zf rfl ?_) | (refine isL ?_; refine zU rfl (by kernel_rfl) rfl rfl ?_) | (refine zb rfl ?_; refine zT rfl (by kernel_rfl) rfl rfl ?_) | refine zD ?_ | refine zB _ rfl (by kernel_rfl) ?_ | refine zV rfl ?_ | refine zW rfl ?_ | refine zC ?_ | with_reducible refine zO ?_ | refine zH ?_ | refine zI ?_ | (with_reducible first | refine zM ?_ | refine zN ?_ | refine zE ?_ | refine zG ?_ | refine zF ?_) | refine zP ?_
        refine yI rfl rfl rfl rfl (fun p1 => ?_) (fun p1 => ?_)
        · have q1 : 0 < k := by have := of_decide_eq_true p1; simp only at this; omega
          obtain ⟨y, hy⟩ : ∃ z, out[k - 1]? = some z := ⟨_, List.getElem?_eq_getElem (by omega)⟩
          have ew : IntKind.i64.wrap ((k : Int) - 1) = ((k - 1 : Nat) : Int) := by rw [IntKind.wrap_i64]; omega
          repeat' first | refine zK ?_ | refine zA ?_ | refine zL [] ?_ | (refine isA ?_; refine zf rfl ?_) | (refine isL ?_; refine zU rfl (by kernel_rfl) rfl rfl ?_) | (refine zb rfl ?_; refine zT rfl (by kernel_rfl) rfl rfl ?_) | (refine yG (x := .tmp 24) ?_; refine zc rfl (z5 (t := rwT) (z := x) rfl rfl rfl rfl (Int.natCast_nonneg i) hx) rfl ?_) | (refine yF (x := .tmp 24) rfl ?_; refine zX rfl (by kernel_rfl) rfl (z5 (t := rwT) (z := x) rfl rfl rfl rfl (Int.natCast_nonneg i) hx) rfl ?_) | (refine yG (x := .tmp 19) ?_; refine zc rfl (sg (t := rwT) (xs := out) rfl rfl rfl rfl rfl (by rw [ew]; exact Int.natCast_nonneg _) (by rw [ew]; omega)) rfl ?_) | (refine yF (x := .tmp 19) rfl ?_; refine zX rfl (by kernel_rfl) rfl (sg (t := rwT) (xs := out) rfl rfl rfl rfl rfl (by rw [ew]; exact Int.natCast_nonneg _) (by rw [ew]; omega)) rfl ?_) | (refine wT (x := .tmp 22) ?_; refine zc rfl (xF (T := rwT) (i := k - 1) (xs := out) (z := y) rfl (by simp only [ew]; rfl) rfl hy) rfl ?_) | (refine wW (x := .tmp 22) rfl ?_; refine zX rfl (by kernel_rfl) rfl (xF (T := rwT) (i := k - 1) (xs := out) (z := y) rfl (by simp only [ew]; rfl) rfl hy) rfl ?_) | (refine zu 68 ?_; refine zc rfl (zQ rfl (xa y x) (.cons (.same rfl) (.cons (.same rfl) .nil)) rfl) rfl ?_) | (refine zv 68 rfl ?_; refine zX rfl (by kernel_rfl) rfl (zQ rfl (xa y x) (.cons (.same rfl) (.cons (.same rfl) .nil)) rfl) rfl ?_) | refine zD ?_ | refine zB _ rfl (by kernel_rfl) ?_ | refine zV rfl ?_ | refine zW rfl ?_ | refine zC ?_ | with_reducible refine zO ?_ | refine zH ?_ | refine zI ?_ | (with_reducible first | refine zM ?_ | refine zN ?_ | refine zE ?_ | refine zG ?_ | refine zF ?_) | refine zP ?_
          refine zd rfl (fun p2 => ?_) (fun p2 => ?_)
          · have q2 := of_decide_eq_true p2
            repeat' first | refine zK ?_ | refine zA ?_ | refine zL [] ?_ | (refine isA ?_; refine zf rfl ?_) | (refine isL ?_; refine zU rfl (by kernel_rfl) rfl rfl ?_) | (refine zb rfl ?_; refine zT rfl (by kernel_rfl) rfl rfl ?_) | refine zD ?_ | refine zB _ rfl (by kernel_rfl) ?_ | refine zV rfl ?_ | refine zW rfl ?_ | refine zC ?_ | with_reducible refine zO ?_ | refine zH ?_ | refine zI ?_ | (with_reducible first | refine zM ?_ | refine zN ?_ | refine zE ?_ | refine zG ?_ | refine zF ?_) | refine zP ?_
            refine ⟨⟨k - 1, by omega, fun j z hj hz => ?_⟩, by simp only; omega, ?_⟩
            · rcases Nat.lt_or_ge j k with hjk | hjk
              · obtain rfl : j = k - 1 := by omega
                rw [hy] at hz
                cases hz
                intro hle
                have : yr y x ≤ 0 := hle
                omega
              · exact hB j z hjk hz
            · exact yb [0] rfl rfl (by decide) (.cons rfl rfl rfl rfl (zY (zJ _ _)) .nil) (by
                repeat' first | exact zg | refine zZ ?_ ?_ | exact zo | exact le_refl rfl | exact zj rfl rfl | exact z8 (congrArg _ ew.symm))
          · have q2 := of_decide_eq_false p2
            have hfin := nE hso hk hB (fun z _ hz => by rw [hy] at hz; cases hz; show yr y x ≤ 0; omega)
            have hkl : k ≤ i := by omega
            repeat' first | refine zK ?_ | refine zA ?_ | (refine isA ?_; refine zf rfl ?_) | (refine isL ?_; refine zU rfl (by kernel_rfl) rfl rfl ?_) | (refine zb rfl ?_; refine zT rfl (by kernel_rfl) rfl rfl ?_) | refine zD ?_ | refine zB _ rfl (by kernel_rfl) ?_ | refine zV rfl ?_ | refine zW rfl ?_ | refine zC ?_ | with_reducible refine zO ?_ | refine zH ?_ | refine zI ?_ | (with_reducible first | refine zM ?_ | refine zN ?_ | refine zE ?_ | refine zG ?_ | refine zF ?_) | refine zP ?_
            refine ut (fun H => H[0]? = some (rwR out)) 10 rfl ?_
            refine yU 5 rfl rfl (by kernel_rfl) rfl (fun _ => rfl) rfl ?_
            refine yU 6 rfl rfl (by kernel_rfl) rfl (fun _ => rfl) rfl ?_
            refine y4 7 rfl rfl (by kernel_rfl) rfl (fun H hG => y6 (l := (k : Int)) (h := (out.length : Int)) rfl rfl hG (Nat.zero_le _) rfl (.yes _ rfl) (.no _) (by omega) (by omega) (by omega)) rfl ?_
            refine yU 0 rfl rfl (by kernel_rfl) rfl (fun _ => rfl) rfl ?_
            refine yU 1 rfl rfl (by kernel_rfl) rfl (fun _ => rfl) rfl ?_
            refine y4 2 rfl rfl (by kernel_rfl) rfl (fun _ _ => z5 (t := rwT) (z := x) rfl rfl rfl rfl (Int.natCast_nonneg i) hx) rfl ?_
            refine yU 3 rfl rfl (by kernel_rfl) rfl (fun _ => rfl) rfl ?_
            refine wG 4 (by kernel_rfl) ?_
            refine gE rfl rfl rfl rfl rfl ?_
            refine wG 8 (by kernel_rfl) ?_
            refine sZ rfl rfl (yX (t := rwT) (xs := [x]) (ys := out.drop k) rfl rfl rfl rfl (nc rfl hk (by simp) (by simp)) (by simp; omega) rfl) rfl rfl ?_
            refine yU 9 rfl rfl (by kernel_rfl) rfl (fun _ => rfl) rfl ?_
            refine wj (by kernel_rfl) ?_
            repeat' first | refine zK ?_ | refine zA ?_ | refine zL [] ?_ | (refine isA ?_; refine zf rfl ?_) | (refine isL ?_; refine zU rfl (by kernel_rfl) rfl rfl ?_) | (refine zb rfl ?_; refine zT rfl (by kernel_rfl) rfl rfl ?_) | (refine uA ?_; refine zc rfl (y6 (l := (0 : Int)) (h := (k : Int)) rfl rfl rfl (Nat.zero_le _) rfl (.no 0) (.yes _ rfl) (Int.le_refl 0) (Int.natCast_nonneg k) (by omega)) rfl ?_) | (refine v9 rfl ?_; refine zX rfl (by kernel_rfl) rfl (y6 (l := (0 : Int)) (h := (k : Int)) rfl rfl rfl (Nat.zero_le _) rfl (.no 0) (.yes _ rfl) (Int.le_refl 0) (Int.natCast_nonneg k) (by omega)) rfl ?_) | (refine xU ?_; refine zc rfl (yX (t := rwT) (xs := []) (ys := out.take k) rfl rfl rfl rfl (ua rfl hk (by simp) (by simp)) (by simp; omega) rfl) rfl ?_) | (refine y9 rfl ?_; refine zX rfl (by kernel_rfl) rfl (yX (t := rwT) (xs := []) (ys := out.take k) rfl rfl rfl rfl (ua rfl hk (by simp) (by simp)) (by simp; omega) rfl) rfl ?_) | (refine xU ?_; refine zc rfl (yX (t := rwT) (xs := [] ++ out.take k) (ys := [x] ++ out.drop k) rfl rfl rfl rfl (tc rfl) (by simp; omega) rfl) rfl ?_) | (refine y9 rfl ?_; refine zX rfl (by kernel_rfl) rfl (yX (t := rwT) (xs := [] ++ out.take k) (ys := [x] ++ out.drop k) rfl rfl rfl rfl (tc rfl) (by simp; omega) rfl) rfl ?_) | refine zD ?_ | refine zB _ rfl (by kernel_rfl) ?_ | refine zV rfl ?_ | refine zW rfl ?_ | refine zC ?_ | with_reducible refine zO ?_ | refine zH ?_ | refine zI ?_ | (with_reducible first | refine zM ?_ | refine zN ?_ | refine zE ?_ | refine zG ?_ | refine zF ?_) | refine zP ?_
            refine ⟨⟨i + 1, hlt⟩, by simp only; omega, ?_⟩
            exact yb [5] rfl rfl (by decide) (.cons rfl rfl rfl rfl (yh (show rwT.flat ([] ++ out.take k ++ ([x] ++ out.drop k)) = rwT.flat (yJ (xs.take (i + 1))) by rw [e1, ← hfin]; rfl) (zJ _ _)) .nil) (by
              repeat' first | exact zg | refine zZ ?_ ?_ | exact zo | exact le_refl rfl | exact zj rfl (show ([] ++ out.take k ++ ([x] ++ out.drop k)).length = (yJ (xs.take (i + 1))).length by rw [e1, ← hfin]; rfl) | exact zj rfl (show (yJ (xs.take (i + 1))).length = ([] ++ out.take k ++ ([x] ++ out.drop k)).length by rw [e1, ← hfin]; rfl) | exact xI hlt (by omega))
        · have q1 : k = 0 := by have := of_decide_eq_false p1; simp only at this; omega
          have hfin := nE hso hk hB (fun z h0 hz => by omega)
          have hkl : k ≤ i := by omega
          repeat' first | refine zK ?_ | refine zA ?_ | (refine isA ?_; refine zf rfl ?_) | (refine isL ?_; refine zU rfl (by kernel_rfl) rfl rfl ?_) | (refine zb rfl ?_; refine zT rfl (by kernel_rfl) rfl rfl ?_) | refine zD ?_ | refine zB _ rfl (by kernel_rfl) ?_ | refine zV rfl ?_ | refine zW rfl ?_ | refine zC ?_ | with_reducible refine zO ?_ | refine zH ?_ | refine zI ?_ | (with_reducible first | refine zM ?_ | refine zN ?_ | refine zE ?_ | refine zG ?_ | refine zF ?_) | refine zP ?_
          refine ut (fun H => H[0]? = some (rwR out)) 10 rfl ?_
          refine yU 5 rfl rfl (by kernel_rfl) rfl (fun _ => rfl) rfl ?_
          refine yU 6 rfl rfl (by kernel_rfl) rfl (fun _ => rfl) rfl ?_
          refine y4 7 rfl rfl (by kernel_rfl) rfl (fun H hG => y6 (l := (k : Int)) (h := (out.length : Int)) rfl rfl hG (Nat.zero_le _) rfl (.yes _ rfl) (.no _) (by omega) (by omega) (by omega)) rfl ?_
          refine yU 0 rfl rfl (by kernel_rfl) rfl (fun _ => rfl) rfl ?_
          refine yU 1 rfl rfl (by kernel_rfl) rfl (fun _ => rfl) rfl ?_
          refine y4 2 rfl rfl (by kernel_rfl) rfl (fun _ _ => z5 (t := rwT) (z := x) rfl rfl rfl rfl (Int.natCast_nonneg i) hx) rfl ?_
          refine yU 3 rfl rfl (by kernel_rfl) rfl (fun _ => rfl) rfl ?_
          refine wG 4 (by kernel_rfl) ?_
          refine gE rfl rfl rfl rfl rfl ?_
          refine wG 8 (by kernel_rfl) ?_
          refine sZ rfl rfl (yX (t := rwT) (xs := [x]) (ys := out.drop k) rfl rfl rfl rfl (nc rfl hk (by simp) (by simp)) (by simp; omega) rfl) rfl rfl ?_
          refine yU 9 rfl rfl (by kernel_rfl) rfl (fun _ => rfl) rfl ?_
          refine wj (by kernel_rfl) ?_
          repeat' first | refine zK ?_ | refine zA ?_ | refine zL [] ?_ | (refine isA ?_; refine zf rfl ?_) | (refine isL ?_; refine zU rfl (by kernel_rfl) rfl rfl ?_) | (refine zb rfl ?_; refine zT rfl (by kernel_rfl) rfl rfl ?_) | (refine uA ?_; refine zc rfl (y6 (l := (0 : Int)) (h := (k : Int)) rfl rfl rfl (Nat.zero_le _) rfl (.no 0) (.yes _ rfl) (Int.le_refl 0) (Int.natCast_nonneg k) (by omega)) rfl ?_) | (refine v9 rfl ?_; refine zX rfl (by kernel_rfl) rfl (y6 (l := (0 : Int)) (h := (k : Int)) rfl rfl rfl (Nat.zero_le _) rfl (.no 0) (.yes _ rfl) (Int.le_refl 0) (Int.natCast_nonneg k) (by omega)) rfl ?_) | (refine xU ?_; refine zc rfl (yX (t := rwT) (xs := []) (ys := out.take k) rfl rfl rfl rfl (ua rfl hk (by simp) (by simp)) (by simp; omega) rfl) rfl ?_) | (refine y9 rfl ?_; refine zX rfl (by kernel_rfl) rfl (yX (t := rwT) (xs := []) (ys := out.take k) rfl rfl rfl rfl (ua rfl hk (by simp) (by simp)) (by simp; omega) rfl) rfl ?_) | (refine xU ?_; refine zc rfl (yX (t := rwT) (xs := [] ++ out.take k) (ys := [x] ++ out.drop k) rfl rfl rfl rfl (tc rfl) (by simp; omega) rfl) rfl ?_) | (refine y9 rfl ?_; refine zX rfl (by kernel_rfl) rfl (yX (t := rwT) (xs := [] ++ out.take k) (ys := [x] ++ out.drop k) rfl rfl rfl rfl (tc rfl) (by simp; omega) rfl) rfl ?_) | refine zD ?_ | refine zB _ rfl (by kernel_rfl) ?_ | refine zV rfl ?_ | refine zW rfl ?_ | refine zC ?_ | with_reducible refine zO ?_ | refine zH ?_ | refine zI ?_ | (with_reducible first | refine zM ?_ | refine zN ?_ | refine zE ?_ | refine zG ?_ | refine zF ?_) | refine zP ?_
          refine ⟨⟨i + 1, hlt⟩, by simp only; omega, ?_⟩
          exact yb [5] rfl rfl (by decide) (.cons rfl rfl rfl rfl (yh (show rwT.flat ([] ++ out.take k ++ ([x] ++ out.drop k)) = rwT.flat (yJ (xs.take (i + 1))) by rw [e1, ← hfin]; rfl) (zJ _ _)) .nil) (by
            repeat' first | exact zg | refine zZ ?_ ?_ | exact zo | exact le_refl rfl | exact zj rfl (show ([] ++ out.take k ++ ([x] ++ out.drop k)).length = (yJ (xs.take (i + 1))).length by rw [e1, ← hfin]; rfl) | exact zj rfl (show (yJ (xs.take (i + 1))).length = ([] ++ out.take k ++ ([x] ++ out.drop k)).length by rw [e1, ← hfin]; rfl) | exact xI hlt (by omega))
    · have hge : i = xs.length := by
        have : ¬ ((i : Int) < xs.length) := by simpa using h
        omega
      subst hge
      have e2 : yJ (xs.take xs.length) = yJ xs := by rw [List.take_length]
      repeat' first | refine zK ?_ | refine zA ?_ | refine zL [] ?_ | (refine isA ?_; refine zf rfl ?_) | (refine isL ?_; refine zU rfl (by kernel_rfl) rfl rfl ?_) | (refine zb rfl ?_; refine zT rfl (by kernel_rfl) rfl rfl ?_) | exact mz (ty := rwT) rfl rfl rfl rfl (by simp only [e2]) e2 (xg _) | refine zD ?_ | refine zB _ rfl (by kernel_rfl) ?_ | refine zV rfl ?_ | refine zW rfl ?_ | refine zC ?_ | with_reducible refine zO ?_ | refine zH ?_ | refine zI ?_ | (with_reducible first | refine zM ?_ | refine zN ?_ | refine zE ?_ | refine zG ?_ | refine zF ?_) | refine zP ?_
end Go.Proofs.Ytojcojanokhnaaa.Ab
namespace Go.Proofs.Ytojcojanokhnaaa.Ab
open Go.RowKit
def yx (x : Rw) : Int := cond (vRw x) (1 + x.c) 0
def y7 : List Rw → Int
  | [] => 0
  | x :: xs => yx x + y7 xs
theorem xC {x lo hi : Int} : inV x lo hi = true ↔ lo ≤ x ∧ x ≤ hi := by simp [inV]
theorem qE {x : Rw} : vRw x = true ↔ (0 ≤ x.a ∧ x.a ≤ 9) ∧ (0 ≤ x.b ∧ x.b ≤ 99) ∧ (0 ≤ x.c ∧ x.c ≤ 3) := by
  simp only [vRw, Bool.and_eq_true, xC]
theorem wY (x : Rw) : 0 ≤ yx x ∧ yx x ≤ 4 := by
  unfold yx
  cases h : vRw x with
  | false => simp
  | true => have := (qE.1 h).2.2; simp only [cond_true]; omega
theorem uE : ∀ xs : List Rw, 0 ≤ y7 xs ∧ y7 xs ≤ 4 * xs.length
  | [] => by simp [y7]
  | x :: xs => by
    have h1 := uE xs
    have h2 := wY x
    simp only [y7, List.length_cons]; omega
theorem vF : ∀ xs ys : List Rw, y7 (xs ++ ys) = y7 xs + y7 ys
  | [], ys => by simp [y7]
  | x :: xs, ys => by simp only [List.cons_append, y7, vF xs ys]; omega
theorem mU {xs : List Rw} {i : Nat} {z : Rw} (hz : xs[i]? = some z) : y7 (xs.take (i + 1)) = y7 (xs.take i) + yx z := by
  rw [yo hz, vF]; simp [y7]
theorem mV {xs ys : List Rw} (h : xs.Perm ys) : y7 xs = y7 ys := by
  induction h with
  | nil => rfl
  | cons x _ ih => simp only [y7, ih]
  | swap x y l => simp only [y7]; omega
  | trans _ _ h1 h2 => exact h1.trans h2
instance (x y : Rw) : Decidable (leW x y) := inferInstanceAs (Decidable (yr x y ≤ 0))
instance (xs : List Rw) : Decidable (Srt xs) := inferInstanceAs (Decidable (xs.Pairwise leW))
def vb (xs : List Rw) : Bool := decide (Srt xs)
def belL (x : Rw) : Option Rw → Bool
  | none => false
  | some y => decide (yr x y < 0)
def bel (x : Rw) (out : List Rw) : Bool := belL x out[out.length - 1]?
theorem gG (x y : Rw) (out : List Rw) : bel x (out ++ [y]) = decide (yr x y < 0) := by
  unfold bel
  rw [show (out ++ [y]).length - 1 = out.length by simp, List.getElem?_append_right (Nat.le_refl _), Nat.sub_self]
  rfl
theorem lg {xs : List Rw} {y : Rw} (h : Srt xs) (hb : bel y xs = false) : Srt (xs ++ [y]) := by
  refine List.pairwise_append.2 ⟨h, List.pairwise_singleton _ _, fun a ha c hc => ?_⟩
  have hc' : c = y := by simpa using hc
  subst hc'
  obtain ⟨i, hi⟩ := List.getElem?_of_mem ha
  have hlt := (List.getElem?_eq_some_iff.1 hi).1
  obtain ⟨z, hz⟩ : ∃ z, xs[xs.length - 1]? = some z := ⟨_, List.getElem?_eq_getElem (by omega)⟩
  have hzc : leW z c := by
    unfold bel at hb
    rw [hz] at hb
    exact Classical.byContradiction fun hn => absurd (xN.2 hn) (of_decide_eq_false hb)
  exact xH (vh h (show i ≤ xs.length - 1 by omega) hi hz) hzc
def uS (xs : List Rw) : Nat → Int
  | 0 => -1
  | n + 1 => cond (decide (uS xs n < 0)) n (match xs[n]?, xs[(uS xs n).toNat]? with
    | some x, some y => cond (decide (yr x y < 0)) n (uS xs n)
    | _, _ => uS xs n)
def nA (xs : List Rw) : Int := uS xs xs.length
theorem tf {xs : List Rw} : ∀ {n : Nat}, n ≤ xs.length → 0 < n → ∃ k y, uS xs n = ((k : Nat) : Int) ∧ k < n ∧ xs[k]? = some y ∧ ∀ j z, j < n → xs[j]? = some z → leW y z
  | 0, _, h => absurd h (Nat.lt_irrefl 0)
  | n + 1, hn, _ => by
    obtain ⟨x, hx⟩ : ∃ z, xs[n]? = some z := ⟨_, List.getElem?_eq_getElem (by omega)⟩
    rcases Nat.eq_zero_or_pos n with rfl | hpos
    · refine ⟨0, x, rfl, by omega, hx, fun j z hj hz => ?_⟩
      obtain rfl : j = 0 := by omega
      rw [hx] at hz
      cases hz
      exact sM _
    · obtain ⟨k, y, h1, h2, h3, h4⟩ := tf (xs := xs) (n := n) (by omega) hpos
      rw [uS, h1, decide_eq_false (show ¬ ((k : Nat) : Int) < 0 from by have := Int.natCast_nonneg k; omega), cond_false, Int.toNat_natCast, hx, h3]
      simp only
      cases hc : decide (yr x y < 0) with
      | true =>
        have hle := wd (xN.1 (of_decide_eq_true hc))
        refine ⟨n, x, rfl, by omega, hx, fun j z hj hz => ?_⟩
        rcases Nat.lt_or_ge j n with hjn | hjn
        · exact xH hle (h4 j z hjn hz)
        · obtain rfl : j = n := by omega
          rw [hx] at hz
          cases hz
          exact sM _
      | false =>
        refine ⟨k, y, rfl, by omega, h3, fun j z hj hz => ?_⟩
        rcases Nat.lt_or_ge j n with hjn | hjn
        · exact h4 j z hjn hz
        · obtain rfl : j = n := by omega
          rw [hx] at hz
          cases hz
          exact Classical.byContradiction fun hn => absurd (xN.2 hn) (of_decide_eq_false hc)
theorem nj {xs : List Rw} (h : 0 < xs.length) : ∃ k y, nA xs = ((k : Nat) : Int) ∧ xs[k]? = some y ∧ ∀ z ∈ xs, leW y z := by
  obtain ⟨k, y, h1, h2, h3, h4⟩ := tf (Nat.le_refl xs.length) h
  refine ⟨k, y, h1, h3, fun z hz => ?_⟩
  obtain ⟨j, hj⟩ := List.getElem?_of_mem hz
  exact h4 j z (List.getElem?_eq_some_iff.1 hj).1 hj
theorem mW {xs : List Rw} {k : Nat} {y : Rw} (h : xs[k]? = some y) : (xs.take k ++ xs.drop (k + 1) ++ [y]).Perm xs := by
  have e : xs = xs.take k ++ y :: xs.drop (k + 1) := by rw [← yE h, List.take_append_drop]
  have : (xs.take k ++ y :: xs.drop (k + 1)).Perm (y :: (xs.take k ++ xs.drop (k + 1))) := List.perm_middle
  rw [← e] at this
  exact List.perm_append_comm.trans this.symm
def avS (rs : List Rn) : Bool := rs.all fun r => !decide (r.length = 0) && (vb r && avR r)
end Go.Proofs.Ytojcojanokhnaaa.Ab
namespace Go.Proofs.Ytojcojanokhnaaa.Ab
open Go.RowKit
theorem vY (x : Rw) : zy Go.Proofs.Try.prog 58 [.agg (rwE x)] [] (I (yx x)) [] false := by
  refine zw [2] Go.Proofs.Try.func58 rfl rfl ?_
  simp only [Go.Proofs.Try.ntmps58, List.length_cons, List.length_nil, Nat.reduceAdd, Nat.reduceSub, List.replicate_succ, List.replicate_zero, List.cons_append, List.nil_append]
  repeat' first | refine zK ?_ | refine zA ?_ | refine zL [] ?_ | (refine isA ?_; refine zf rfl ?_) | (refine isL ?_; refine zU rfl (by kernel_rfl) rfl rfl ?_) | (refine zb rfl ?_; refine zT rfl (by kernel_rfl) rfl rfl ?_) | (refine zu 116 ?_; refine zc rfl (zQ rfl (tj x) (.cons (.same rfl) .nil) rfl) rfl ?_) | (refine zv 116 rfl ?_; refine zX rfl (by kernel_rfl) rfl (zQ rfl (tj x) (.cons (.same rfl) .nil) rfl) rfl ?_) | refine zD ?_ | refine zB _ rfl (by kernel_rfl) ?_ | refine zV rfl ?_ | refine zW rfl ?_ | refine zC ?_ | with_reducible refine zO ?_ | refine zH ?_ | refine zI ?_ | (with_reducible first | refine zM ?_ | refine zN ?_ | refine zE ?_ | refine zG ?_ | refine zF ?_) | refine zP ?_
  refine zd rfl (fun h => ?_) (fun h => ?_)
  · have h : vRw x = false := by simpa using h
    repeat' first | refine zK ?_ | refine zA ?_ | refine zL [] ?_ | (refine isA ?_; refine zf rfl ?_) | (refine isL ?_; refine zU rfl (by kernel_rfl) rfl rfl ?_) | (refine zb rfl ?_; refine zT rfl (by kernel_rfl) rfl rfl ?_) | exact yK rfl rfl (by simp only [yx, h, cond_false]) | refine zD ?_ | refine zB _ rfl (by kernel_rfl) ?_ | refine zV rfl ?_ | refine zW rfl ?_ | refine zC ?_ | with_reducible refine zO ?_ | refine zH ?_ | refine zI ?_ | (with_reducible first | refine zM ?_ | refine zN ?_ | refine zE ?_ | refine zG ?_ | refine zF ?_) | refine zP ?_
  · have h : vRw x = true := by simpa using h
    have := (qE.1 h).2.2
    repeat' first | refine zK ?_ | refine zA ?_ | refine zL [] ?_ | (refine isA ?_; refine zf rfl ?_) | (refine isL ?_; refine zU rfl (by kernel_rfl) rfl rfl ?_) | (refine zb rfl ?_; refine zT rfl (by kernel_rfl) rfl rfl ?_) | exact yK rfl rfl (by simp only [yx, h, cond_true]; refine congrArg I ?_; rw [IntKind.wrap_i64]; omega) | refine zD ?_ | refine zB _ rfl (by kernel_rfl) ?_ | refine zV rfl ?_ | refine zW rfl ?_ | refine zC ?_ | with_reducible refine zO ?_ | refine zH ?_ | refine zI ?_ | (with_reducible first | refine zM ?_ | refine zN ?_ | refine zE ?_ | refine zG ?_ | refine zF ?_) | refine zP ?_
theorem xq (x : Rw) : zy Go.Proofs.Try.prog 67 [.agg (rwE x)] [] (I (yx x)) [] false := by
  refine zw [2] Go.Proofs.Try.func67 rfl rfl ?_
  simp only [Go.Proofs.Try.ntmps67, List.length_cons, List.length_nil, Nat.reduceAdd, Nat.reduceSub, List.replicate_succ, List.replicate_zero, List.cons_append, List.nil_append]
  repeat' first | refine zK ?_ | refine zA ?_ | refine zL [] ?_ | (refine isA ?_; refine zf rfl ?_) | (refine isL ?_; refine zU rfl (by kernel_rfl) rfl rfl ?_) | (refine zb rfl ?_; refine zT rfl (by kernel_rfl) rfl rfl ?_) | (refine zu 99 ?_; refine zc rfl (zQ rfl (th x) (.cons (.same rfl) .nil) rfl) rfl ?_) | (refine zv 99 rfl ?_; refine zX rfl (by kernel_rfl) rfl (zQ rfl (th x) (.cons (.same rfl) .nil) rfl) rfl ?_) | refine zD ?_ | refine zB _ rfl (by kernel_rfl) ?_ | refine zV rfl ?_ | refine zW rfl ?_ | refine zC ?_ | with_reducible refine zO ?_ | refine zH ?_ | refine zI ?_ | (with_reducible first | refine zM ?_ | refine zN ?_ | refine zE ?_ | refine zG ?_ | refine zF ?_) | refine zP ?_
  refine zd rfl (fun h => ?_) (fun h => ?_)
  · have h : vRw x = false := by simpa using h
    repeat' first | refine zK ?_ | refine zA ?_ | refine zL [] ?_ | (refine isA ?_; refine zf rfl ?_) | (refine isL ?_; refine zU rfl (by kernel_rfl) rfl rfl ?_) | (refine zb rfl ?_; refine zT rfl (by kernel_rfl) rfl rfl ?_) | exact yK rfl rfl (by simp only [yx, h, cond_false]) | refine zD ?_ | refine zB _ rfl (by kernel_rfl) ?_ | refine zV rfl ?_ | refine zW rfl ?_ | refine zC ?_ | with_reducible refine zO ?_ | refine zH ?_ | refine zI ?_ | (with_reducible first | refine zM ?_ | refine zN ?_ | refine zE ?_ | refine zG ?_ | refine zF ?_) | refine zP ?_
  · have h : vRw x = true := by simpa using h
    have := (qE.1 h).2.2
    repeat' first | refine zK ?_ | refine zA ?_ | refine zL [] ?_ | (refine isA ?_; refine zf rfl ?_) | (refine isL ?_; refine zU rfl (by kernel_rfl) rfl rfl ?_) | (refine zb rfl ?_; refine zT rfl (by kernel_rfl) rfl rfl ?_) | exact yK rfl rfl (by simp only [yx, h, cond_true]; refine congrArg I ?_; rw [IntKind.wrap_i64]; omega) | refine zD ?_ | refine zB _ rfl (by kernel_rfl) ?_ | refine zV rfl ?_ | refine zW rfl ?_ | refine zC ?_ | with_reducible refine zO ?_ | refine zH ?_ | refine zI ?_ | (with_reducible first | refine zM ?_ | refine zN ?_ | refine zE ?_ | refine zG ?_ | refine zF ?_) | refine zP ?_
theorem qr {xs : List Rw} {i : Nat} {z : Rw} (hz : xs[i]? = some z) (hl : xs.length ≤ 1000000000) : I (y7 (xs.take (i + 1))) = I (IntKind.i64.wrap (y7 (xs.take i) + yx z)) := by
  have h1 := uE (xs.take i)
  have h2 := wY z
  have h3 := (List.getElem?_eq_some_iff.1 hz).1
  have h4 : (xs.take i).length ≤ xs.length := by simp; omega
  rw [mU hz]
  refine congrArg I ?_
  rw [IntKind.wrap_i64]
  omega
theorem qi (xs : List Rw) (hl : xs.length ≤ 1000000000) : zy Go.Proofs.Try.prog 88 [rwL xs] [] (I (y7 xs)) [] false := by
  refine zw [2] Go.Proofs.Try.func88 rfl rfl ?_
  simp only [Go.Proofs.Try.ntmps88, List.length_cons, List.length_nil, Nat.reduceAdd, Nat.reduceSub, List.replicate_succ, List.replicate_zero, List.cons_append, List.nil_append]
  repeat' first | refine zK ?_ | refine zA ?_ | refine zL [] ?_ | (refine isA ?_; refine zf rfl ?_) | (refine isL ?_; refine zU rfl (by kernel_rfl) rfl rfl ?_) | (refine zb rfl ?_; refine zT rfl (by kernel_rfl) rfl rfl ?_) | refine zD ?_ | refine zB _ rfl (by kernel_rfl) ?_ | refine zV rfl ?_ | refine zW rfl ?_ | refine zC ?_ | with_reducible refine zO ?_ | refine zH ?_ | refine zI ?_ | (with_reducible first | refine zM ?_ | refine zN ?_ | refine zE ?_ | refine zG ?_ | refine zF ?_) | refine zP ?_
  refine z9 (α := { i : Nat // i ≤ xs.length }) (fun i => ⟨[.any, .any, .any, I (y7 (xs.take i.1)), .any, .any, rwL xs, I xs.length, I i.1, .any, .any, .any, .any, .any, .any, .any, .any, .any], [], 0⟩) (fun i => xs.length - i.1) ⟨0, Nat.zero_le _⟩ ?_ ?_
  · exact yb [] rfl rfl (by decide) .nil (by repeat' first | exact zg | refine zZ ?_ ?_ | exact zo | exact le_refl rfl | exact zj rfl rfl | exact zt rfl)
  · rintro ⟨i, hi⟩
    repeat' first | refine zK ?_ | refine zA ?_ | refine zL [] ?_ | (refine isA ?_; refine zf rfl ?_) | (refine isL ?_; refine zU rfl (by kernel_rfl) rfl rfl ?_) | (refine zb rfl ?_; refine zT rfl (by kernel_rfl) rfl rfl ?_) | refine zD ?_ | refine zB _ rfl (by kernel_rfl) ?_ | refine zV rfl ?_ | refine zW rfl ?_ | refine zC ?_ | with_reducible refine zO ?_ | refine zH ?_ | refine zI ?_ | (with_reducible first | refine zM ?_ | refine zN ?_ | refine zE ?_ | refine zG ?_ | refine zF ?_) | refine zP ?_
    refine zd rfl (fun h => ?_) (fun h => ?_)
    · have hlt : i < xs.length := by simpa using h
      obtain ⟨z, hz⟩ : ∃ z, xs[i]? = some z := ⟨_, List.getElem?_eq_getElem hlt⟩
      repeat' first | refine zK ?_ | refine zA ?_ | refine zL [] ?_ | (refine isA ?_; refine zf rfl ?_) | (refine isL ?_; refine zU rfl (by kernel_rfl) rfl rfl ?_) | (refine zb rfl ?_; refine zT rfl (by kernel_rfl) rfl rfl ?_) | refine zc rfl (z5 (z := z) rfl rfl rfl rfl (Int.natCast_nonneg _) hz) rfl ?_ | refine zX rfl (by kernel_rfl) rfl (z5 (z := z) rfl rfl rfl rfl (Int.natCast_nonneg _) hz) rfl ?_ | (refine zu 58 ?_; refine zc rfl (zQ rfl (vY z) (.cons (.same rfl) .nil) rfl) rfl ?_) | (refine zv 58 rfl ?_; refine zX rfl (by kernel_rfl) rfl (zQ rfl (vY z) (.cons (.same rfl) .nil) rfl) rfl ?_) | refine zD ?_ | refine zB _ rfl (by kernel_rfl) ?_ | refine zV rfl ?_ | refine zW rfl ?_ | refine zC ?_ | with_reducible refine zO ?_ | refine zH ?_ | refine zI ?_ | (with_reducible first | refine zM ?_ | refine zN ?_ | refine zE ?_ | refine zG ?_ | refine zF ?_) | refine zP ?_
      refine ⟨⟨i + 1, hlt⟩, by simp only; omega, ?_⟩
      exact yb [] rfl rfl (by decide) .nil (by
        repeat' first | exact zg | refine zZ ?_ ?_ | exact zo | exact le_refl rfl | exact fk (qr hz hl).symm rfl | exact xI (by assumption) (by omega))
    · have hge : i = xs.length := by
        have : ¬ ((i : Int) < xs.length) := by simpa using h
        omega
      subst hge
      repeat' first | refine zK ?_ | refine zA ?_ | refine zL [] ?_ | (refine isA ?_; refine zf rfl ?_) | (refine isL ?_; refine zU rfl (by kernel_rfl) rfl rfl ?_) | (refine zb rfl ?_; refine zT rfl (by kernel_rfl) rfl rfl ?_) | exact yK rfl rfl (by simp only [List.take_length]) | refine zD ?_ | refine zB _ rfl (by kernel_rfl) ?_ | refine zV rfl ?_ | refine zW rfl ?_ | refine zC ?_ | with_reducible refine zO ?_ | refine zH ?_ | refine zI ?_ | (with_reducible first | refine zM ?_ | refine zN ?_ | refine zE ?_ | refine zG ?_ | refine zF ?_) | refine zP ?_
theorem vC (xs : List Rw) (hl : xs.length ≤ 1000000000) : zy Go.Proofs.Try.prog 90 [rwL xs] [] (I (y7 xs)) [] false := by
  refine zw [2] Go.Proofs.Try.func90 rfl rfl ?_
  simp only [Go.Proofs.Try.ntmps90, List.length_cons, List.length_nil, Nat.reduceAdd, Nat.reduceSub, List.replicate_succ, List.replicate_zero, List.cons_append, List.nil_append]
  repeat' first | refine zK ?_ | refine zA ?_ | refine zL [] ?_ | (refine isA ?_; refine zf rfl ?_) | (refine isL ?_; refine zU rfl (by kernel_rfl) rfl rfl ?_) | (refine zb rfl ?_; refine zT rfl (by kernel_rfl) rfl rfl ?_) | refine zD ?_ | refine zB _ rfl (by kernel_rfl) ?_ | refine zV rfl ?_ | refine zW rfl ?_ | refine zC ?_ | with_reducible refine zO ?_ | refine zH ?_ | refine zI ?_ | (with_reducible first | refine zM ?_ | refine zN ?_ | refine zE ?_ | refine zG ?_ | refine zF ?_) | refine zP ?_
  refine z9 (α := { i : Nat // i ≤ xs.length }) (fun i => ⟨[rwL xs, .any, .any, I (y7 (xs.take i.1)), I i.1, .any, .any, .any, .any, .any, .any, .any, .any, .any, .any, .any, .any, .any, .any], [], 0⟩) (fun i => xs.length - i.1) ⟨0, Nat.zero_le _⟩ ?_ ?_
  · exact yb [] rfl rfl (by decide) .nil (by repeat' first | exact zg | refine zZ ?_ ?_ | exact zo | exact le_refl rfl | exact zj rfl rfl | exact zt rfl)
  · rintro ⟨i, hi⟩
    repeat' first | refine zK ?_ | refine zA ?_ | refine zL [] ?_ | (refine isA ?_; refine zf rfl ?_) | (refine isL ?_; refine zU rfl (by kernel_rfl) rfl rfl ?_) | (refine zb rfl ?_; refine zT rfl (by kernel_rfl) rfl rfl ?_) | refine zD ?_ | refine zB _ rfl (by kernel_rfl) ?_ | refine zV rfl ?_ | refine zW rfl ?_ | refine zC ?_ | with_reducible refine zO ?_ | refine zH ?_ | refine zI ?_ | (with_reducible first | refine zM ?_ | refine zN ?_ | refine zE ?_ | refine zG ?_ | refine zF ?_) | refine zP ?_
    refine zd rfl (fun h => ?_) (fun h => ?_)
    · have hlt : i < xs.length := by simpa using h
      obtain ⟨z, hz⟩ : ∃ z, xs[i]? = some z := ⟨_, List.getElem?_eq_getElem hlt⟩
      repeat' first | refine zK ?_ | refine zA ?_ | refine zL [] ?_ | (refine isA ?_; refine zf rfl ?_) | (refine isL ?_; refine zU rfl (by kernel_rfl) rfl rfl ?_) | (refine zb rfl ?_; refine zT rfl (by kernel_rfl) rfl rfl ?_) | refine zc rfl (z5 (z := z) rfl rfl rfl rfl (Int.natCast_nonneg _) hz) rfl ?_ | refine zX rfl (by kernel_rfl) rfl (z5 (z := z) rfl rfl rfl rfl (Int.natCast_nonneg _) hz) rfl ?_ | (refine zu 67 ?_; refine zc rfl (zQ rfl (xq z) (.cons (.same rfl) .nil) rfl) rfl ?_) | (refine zv 67 rfl ?_; refine zX rfl (by kernel_rfl) rfl (zQ rfl (xq z) (.cons (.same rfl) .nil) rfl) rfl ?_) | refine zD ?_ | refine zB _ rfl (by kernel_rfl) ?_ | refine zV rfl ?_ | refine zW rfl ?_ | refine zC ?_ | with_reducible refine zO ?_ | refine zH ?_ | refine zI ?_ | (with_reducible first | refine zM ?_ | refine zN ?_ | refine zE ?_ | refine zG ?_ | refine zF ?_) | refine zP ?_
      refine ⟨⟨i + 1, hlt⟩, by simp only; omega, ?_⟩
      exact yb [] rfl rfl (by decide) .nil (by
        repeat' first | exact zg | refine zZ ?_ ?_ | exact zo | exact le_refl rfl | exact fk (qr hz hl).symm rfl | exact xI (by assumption) (by omega))
    · have hge : i = xs.length := by
        have : ¬ ((i : Int) < xs.length) := by simpa using h
        omega
      subst hge
      repeat' first | refine zK ?_ | refine zA ?_ | refine zL [] ?_ | (refine isA ?_; refine zf rfl ?_) | (refine isL ?_; refine zU rfl (by kernel_rfl) rfl rfl ?_) | (refine zb rfl ?_; refine zT rfl (by kernel_rfl) rfl rfl ?_) | exact yK rfl rfl (by simp only [List.take_length]) | refine zD ?_ | refine zB _ rfl (by kernel_rfl) ?_ | refine zV rfl ?_ | refine zW rfl ?_ | refine zC ?_ | with_reducible refine zO ?_ | refine zH ?_ | refine zI ?_ | (with_reducible first | refine zM ?_ | refine zN ?_ | refine zE ?_ | refine zG ?_ | refine zF ?_) | refine zP ?_
theorem pO {xs : List Rw} {i : Nat} {z y : Rw} (h : Srt (xs.take (i + 1))) (hz : xs[i + 1]? = some z) (hy : xs[i]? = some y) (hle : leW y z) : Srt (xs.take (i + 2)) := by
  rw [yo hz]
  refine List.pairwise_append.2 ⟨h, List.pairwise_singleton _ _, fun a ha c hc => ?_⟩
  have hc' : c = z := by simpa using hc
  subst hc'
  obtain ⟨j, hj⟩ := List.getElem?_of_mem ha
  have hlt := (List.getElem?_eq_some_iff.1 hj).1
  simp only [List.length_take] at hlt
  have hy' : (xs.take (i + 1))[i]? = some y := by rw [List.getElem?_take_of_lt (by omega)]; exact hy
  exact xH (vh h (show j ≤ i by omega) hj hy') hle
theorem kI {xs : List Rw} {i : Nat} {z y : Rw} (hz : xs[i + 1]? = some z) (hy : xs[i]? = some y) (hle : ¬ leW y z) : vb xs = false := by
  refine decide_eq_false fun h => hle ?_
  exact vh h (Nat.le_succ i) hy hz
theorem ns {xs : List Rw} {i : Nat} (h : Srt (xs.take i)) (hi : xs.length ≤ i) : vb xs = true := by
  rw [List.take_of_length_le hi] at h
  exact decide_eq_true h
theorem na (xs : List Rw) : Srt (xs.take 1) := by
  cases xs with
  | nil => exact List.Pairwise.nil
  | cons x xs => exact List.pairwise_singleton _ _
theorem j7 (xs : List Rw) (hl : xs.length ≤ 1000000000) : zy Go.Proofs.Try.prog 77 [rwL xs] [] (B (vb xs)) [] false := by
  refine zw [2] Go.Proofs.Try.func77 rfl rfl ?_
  simp only [Go.Proofs.Try.ntmps77, List.length_cons, List.length_nil, Nat.reduceAdd, Nat.reduceSub, List.replicate_succ, List.replicate_zero, List.cons_append, List.nil_append]
  repeat' first | refine zK ?_ | refine zA ?_ | refine zL [] ?_ | (refine isA ?_; refine zf rfl ?_) | (refine isL ?_; refine zU rfl (by kernel_rfl) rfl rfl ?_) | (refine zb rfl ?_; refine zT rfl (by kernel_rfl) rfl rfl ?_) | refine zD ?_ | refine zB _ rfl (by kernel_rfl) ?_ | refine zV rfl ?_ | refine zW rfl ?_ | refine zC ?_ | with_reducible refine zO ?_ | refine zH ?_ | refine zI ?_ | (with_reducible first | refine zM ?_ | refine zN ?_ | refine zE ?_ | refine zG ?_ | refine zF ?_) | refine zP ?_
  refine z9 (α := { i : Nat // Srt (xs.take (i + 1)) }) (fun i => ⟨[rwL xs, .any, .any, I ((i.1 + 1 : Nat) : Int), .any, .any, .any, .any, .any, .any, .any, .any, .any, .any, .any, .any, .any, .any, .any, .any, .any], [], 0⟩) (fun i => xs.length - i.1) ⟨0, na xs⟩ ?_ ?_
  · exact yb [] rfl rfl (by decide) .nil (by repeat' first | exact zg | refine zZ ?_ ?_ | exact zo | exact le_refl rfl | exact zj rfl rfl | exact zt rfl)
  · rintro ⟨i, hi⟩
    repeat' first | refine zK ?_ | refine zA ?_ | refine zL [] ?_ | (refine isA ?_; refine zf rfl ?_) | (refine isL ?_; refine zU rfl (by kernel_rfl) rfl rfl ?_) | (refine zb rfl ?_; refine zT rfl (by kernel_rfl) rfl rfl ?_) | refine zD ?_ | refine zB _ rfl (by kernel_rfl) ?_ | refine zV rfl ?_ | refine zW rfl ?_ | refine zC ?_ | with_reducible refine zO ?_ | refine zH ?_ | refine zI ?_ | (with_reducible first | refine zM ?_ | refine zN ?_ | refine zE ?_ | refine zG ?_ | refine zF ?_) | refine zP ?_
    refine zd rfl (fun h => ?_) (fun h => ?_)
    · have hlt : i + 1 < xs.length := by have := of_decide_eq_true h; simp only at this; omega
      obtain ⟨z, hz⟩ : ∃ z, xs[i + 1]? = some z := ⟨_, List.getElem?_eq_getElem hlt⟩
      obtain ⟨y, hy⟩ : ∃ z, xs[i]? = some z := ⟨_, List.getElem?_eq_getElem (by omega)⟩
      have ew : IntKind.i64.wrap (((i + 1 : Nat) : Int) - 1) = ((i : Nat) : Int) := by rw [IntKind.wrap_i64]; omega
      repeat' first | refine zK ?_ | refine zA ?_ | refine zL [] ?_ | (refine isA ?_; refine zf rfl ?_) | (refine isL ?_; refine zU rfl (by kernel_rfl) rfl rfl ?_) | (refine zb rfl ?_; refine zT rfl (by kernel_rfl) rfl rfl ?_) | (refine yG (x := .tmp 10) ?_; refine zc rfl (z5 (t := rwT) (z := z) rfl rfl rfl rfl (Int.natCast_nonneg _) hz) rfl ?_) | (refine yF (x := .tmp 10) rfl ?_; refine zX rfl (by kernel_rfl) rfl (z5 (t := rwT) (z := z) rfl rfl rfl rfl (Int.natCast_nonneg _) hz) rfl ?_) | (refine yG (x := .tmp 14) ?_; refine zc rfl (z5 (t := rwT) (j := ((i : Nat) : Int)) (z := y) rfl rfl rfl (congrArg I ew) (Int.natCast_nonneg _) hy) rfl ?_) | (refine yF (x := .tmp 14) rfl ?_; refine zX rfl (by kernel_rfl) rfl (z5 (t := rwT) (j := ((i : Nat) : Int)) (z := y) rfl rfl rfl (congrArg I ew) (Int.natCast_nonneg _) hy) rfl ?_) | (refine zu 64 ?_; refine zc rfl (zQ rfl (xb z y) (.cons (.same rfl) (.cons (.same rfl) .nil)) rfl) rfl ?_) | (refine zv 64 rfl ?_; refine zX rfl (by kernel_rfl) rfl (zQ rfl (xb z y) (.cons (.same rfl) (.cons (.same rfl) .nil)) rfl) rfl ?_) | refine zD ?_ | refine zB _ rfl (by kernel_rfl) ?_ | refine zV rfl ?_ | refine zW rfl ?_ | refine zC ?_ | with_reducible refine zO ?_ | refine zH ?_ | refine zI ?_ | (with_reducible first | refine zM ?_ | refine zN ?_ | refine zE ?_ | refine zG ?_ | refine zF ?_) | refine zP ?_
      refine zd rfl (fun p => ?_) (fun p => ?_)
      · have e := kI hz hy (xN.1 (of_decide_eq_true p))
        repeat' first | refine zK ?_ | refine zA ?_ | refine zL [] ?_ | (refine isA ?_; refine zf rfl ?_) | (refine isL ?_; refine zU rfl (by kernel_rfl) rfl rfl ?_) | (refine zb rfl ?_; refine zT rfl (by kernel_rfl) rfl rfl ?_) | exact yK rfl rfl (by rw [e]) | refine zD ?_ | refine zB _ rfl (by kernel_rfl) ?_ | refine zV rfl ?_ | refine zW rfl ?_ | refine zC ?_ | with_reducible refine zO ?_ | refine zH ?_ | refine zI ?_ | (with_reducible first | refine zM ?_ | refine zN ?_ | refine zE ?_ | refine zG ?_ | refine zF ?_) | refine zP ?_
      · have q : leW y z := Classical.byContradiction fun hn => absurd (xN.2 hn) (of_decide_eq_false p)
        repeat' first | refine zK ?_ | refine zA ?_ | refine zL [] ?_ | (refine isA ?_; refine zf rfl ?_) | (refine isL ?_; refine zU rfl (by kernel_rfl) rfl rfl ?_) | (refine zb rfl ?_; refine zT rfl (by kernel_rfl) rfl rfl ?_) | refine zD ?_ | refine zB _ rfl (by kernel_rfl) ?_ | refine zV rfl ?_ | refine zW rfl ?_ | refine zC ?_ | with_reducible refine zO ?_ | refine zH ?_ | refine zI ?_ | (with_reducible first | refine zM ?_ | refine zN ?_ | refine zE ?_ | refine zG ?_ | refine zF ?_) | refine zP ?_
        refine ⟨⟨i + 1, pO hi hz hy q⟩, by simp only; omega, ?_⟩
        exact yb [] rfl rfl (by decide) .nil (by
          repeat' first | exact zg | refine zZ ?_ ?_ | exact zo | exact le_refl rfl | exact z8 (congrArg _ (show ((i + 1 + 1 : Nat) : Int) = IntKind.i64.wrap (((i + 1 : Nat) : Int) + 1) by rw [IntKind.wrap_i64]; omega)))
    · have e := ns hi (by have := of_decide_eq_false h; simp only at this; omega)
      repeat' first | refine zK ?_ | refine zA ?_ | refine zL [] ?_ | (refine isA ?_; refine zf rfl ?_) | (refine isL ?_; refine zU rfl (by kernel_rfl) rfl rfl ?_) | (refine zb rfl ?_; refine zT rfl (by kernel_rfl) rfl rfl ?_) | exact yK rfl rfl (by rw [e]) | refine zD ?_ | refine zB _ rfl (by kernel_rfl) ?_ | refine zV rfl ?_ | refine zW rfl ?_ | refine zC ?_ | with_reducible refine zO ?_ | refine zH ?_ | refine zI ?_ | (with_reducible first | refine zM ?_ | refine zN ?_ | refine zE ?_ | refine zG ?_ | refine zF ?_) | refine zP ?_
theorem jo (xs : List Rw) (hl : xs.length ≤ 1000000000) : zy Go.Proofs.Try.prog 84 [rwL xs] [] (B (vb xs)) [] false := by
  refine zw [2] Go.Proofs.Try.func84 rfl rfl ?_
  simp only [Go.Proofs.Try.ntmps84, List.length_cons, List.length_nil, Nat.reduceAdd, Nat.reduceSub, List.replicate_succ, List.replicate_zero, List.cons_append, List.nil_append]
  repeat' first | refine zK ?_ | refine zA ?_ | refine zL [] ?_ | (refine isA ?_; refine zf rfl ?_) | (refine isL ?_; refine zU rfl (by kernel_rfl) rfl rfl ?_) | (refine zb rfl ?_; refine zT rfl (by kernel_rfl) rfl rfl ?_) | refine zD ?_ | refine zB _ rfl (by kernel_rfl) ?_ | refine zV rfl ?_ | refine zW rfl ?_ | refine zC ?_ | with_reducible refine zO ?_ | refine zH ?_ | refine zI ?_ | (with_reducible first | refine zM ?_ | refine zN ?_ | refine zE ?_ | refine zG ?_ | refine zF ?_) | refine zP ?_
  refine z9 (α := { i : Nat // Srt (xs.take (i + 1)) }) (fun i => ⟨[rwL xs, .any, .any, I ((i.1 + 1 : Nat) : Int), .any, .any, .any, .any, .any, .any, .any, .any, .any, .any, .any, .any, .any, .any, .any, .any, .any], [], 0⟩) (fun i => xs.length - i.1) ⟨0, na xs⟩ ?_ ?_
  · exact yb [] rfl rfl (by decide) .nil (by repeat' first | exact zg | refine zZ ?_ ?_ | exact zo | exact le_refl rfl | exact zj rfl rfl | exact zt rfl)
  · rintro ⟨i, hi⟩
    repeat' first | refine zK ?_ | refine zA ?_ | refine zL [] ?_ | (refine isA ?_; refine zf rfl ?_) | (refine isL ?_; refine zU rfl (by kernel_rfl) rfl rfl ?_) | (refine zb rfl ?_; refine zT rfl (by kernel_rfl) rfl rfl ?_) | refine zD ?_ | refine zB _ rfl (by kernel_rfl) ?_ | refine zV rfl ?_ | refine zW rfl ?_ | refine zC ?_ | with_reducible refine zO ?_ | refine zH ?_ | refine zI ?_ | (with_reducible first | refine zM ?_ | refine zN ?_ | refine zE ?_ | refine zG ?_ | refine zF ?_) | refine zP ?_
    refine zd rfl (fun h => ?_) (fun h => ?_)
    · have hlt : i + 1 < xs.length := by have := of_decide_eq_true h; simp only at this; omega
      obtain ⟨z, hz⟩ : ∃ z, xs[i + 1]? = some z := ⟨_, List.getElem?_eq_getElem hlt⟩
      obtain ⟨y, hy⟩ : ∃ z, xs[i]? = some z := ⟨_, List.getElem?_eq_getElem (by omega)⟩
      have ew : IntKind.i64.wrap (((i + 1 : Nat) : Int) - 1) = ((i : Nat) : Int) := by rw [IntKind.wrap_i64]; omega
      repeat' first | refine zK ?_ | refine zA ?_ | refine zL [] ?_ | (refine isA ?_; refine zf rfl ?_) | (refine isL ?_; refine zU rfl (by kernel_rfl) rfl rfl ?_) | (refine zb rfl ?_; refine zT rfl (by kernel_rfl) rfl rfl ?_) | (refine yG (x := .tmp 15) ?_; refine zc rfl (z5 (t := rwT) (z := z) rfl rfl rfl rfl (Int.natCast_nonneg _) hz) rfl ?_) | (refine yF (x := .tmp 15) rfl ?_; refine zX rfl (by kernel_rfl) rfl (z5 (t := rwT) (z := z) rfl rfl rfl rfl (Int.natCast_nonneg _) hz) rfl ?_) | (refine yG (x := .tmp 10) ?_; refine zc rfl (z5 (t := rwT) (j := ((i : Nat) : Int)) (z := y) rfl rfl rfl (congrArg I ew) (Int.natCast_nonneg _) hy) rfl ?_) | (refine yF (x := .tmp 10) rfl ?_; refine zX rfl (by kernel_rfl) rfl (z5 (t := rwT) (j := ((i : Nat) : Int)) (z := y) rfl rfl rfl (congrArg I ew) (Int.natCast_nonneg _) hy) rfl ?_) | (refine zu 68 ?_; refine zc rfl (zQ rfl (xa y z) (.cons (.same rfl) (.cons (.same rfl) .nil)) rfl) rfl ?_) | (refine zv 68 rfl ?_; refine zX rfl (by kernel_rfl) rfl (zQ rfl (xa y z) (.cons (.same rfl) (.cons (.same rfl) .nil)) rfl) rfl ?_) | refine zD ?_ | refine zB _ rfl (by kernel_rfl) ?_ | refine zV rfl ?_ | refine zW rfl ?_ | refine zC ?_ | with_reducible refine zO ?_ | refine zH ?_ | refine zI ?_ | (with_reducible first | refine zM ?_ | refine zN ?_ | refine zE ?_ | refine zG ?_ | refine zF ?_) | refine zP ?_
      refine zd rfl (fun p => ?_) (fun p => ?_)
      · have e := kI hz hy (fun h => by have h : yr y z ≤ 0 := h; have := of_decide_eq_true p; omega)
        repeat' first | refine zK ?_ | refine zA ?_ | refine zL [] ?_ | (refine isA ?_; refine zf rfl ?_) | (refine isL ?_; refine zU rfl (by kernel_rfl) rfl rfl ?_) | (refine zb rfl ?_; refine zT rfl (by kernel_rfl) rfl rfl ?_) | exact yK rfl rfl (by rw [e]) | refine zD ?_ | refine zB _ rfl (by kernel_rfl) ?_ | refine zV rfl ?_ | refine zW rfl ?_ | refine zC ?_ | with_reducible refine zO ?_ | refine zH ?_ | refine zI ?_ | (with_reducible first | refine zM ?_ | refine zN ?_ | refine zE ?_ | refine zG ?_ | refine zF ?_) | refine zP ?_
      · have q : leW y z := by show yr y z ≤ 0; have := of_decide_eq_false p; omega
        repeat' first | refine zK ?_ | refine zA ?_ | refine zL [] ?_ | (refine isA ?_; refine zf rfl ?_) | (refine isL ?_; refine zU rfl (by kernel_rfl) rfl rfl ?_) | (refine zb rfl ?_; refine zT rfl (by kernel_rfl) rfl rfl ?_) | refine zD ?_ | refine zB _ rfl (by kernel_rfl) ?_ | refine zV rfl ?_ | refine zW rfl ?_ | refine zC ?_ | with_reducible refine zO ?_ | refine zH ?_ | refine zI ?_ | (with_reducible first | refine zM ?_ | refine zN ?_ | refine zE ?_ | refine zG ?_ | refine zF ?_) | refine zP ?_
        refine ⟨⟨i + 1, pO hi hz hy q⟩, by simp only; omega, ?_⟩
        exact yb [] rfl rfl (by decide) .nil (by
          repeat' first | exact zg | refine zZ ?_ ?_ | exact zo | exact le_refl rfl | exact z8 (congrArg _ (show ((i + 1 + 1 : Nat) : Int) = IntKind.i64.wrap (((i + 1 : Nat) : Int) + 1) by rw [IntKind.wrap_i64]; omega)))
    · have e := ns hi (by have := of_decide_eq_false h; simp only at this; omega)
      repeat' first | refine zK ?_ | refine zA ?_ | refine zL [] ?_ | (refine isA ?_; refine zf rfl ?_) | (refine isL ?_; refine zU rfl (by kernel_rfl) rfl rfl ?_) | (refine zb rfl ?_; refine zT rfl (by kernel_rfl) rfl rfl ?_) | exact yK rfl rfl (by rw [e]) | refine zD ?_ | refine zB _ rfl (by kernel_rfl) ?_ | refine zV rfl ?_ | refine zW rfl ?_ | refine zC ?_ | with_reducible refine zO ?_ | refine zH ?_ | refine zI ?_ | (with_reducible first | refine zM ?_ | refine zN ?_ | refine zE ?_ | refine zG ?_ | refine zF ?_) | refine zP ?_
theorem qj (x : Rw) (out : List Rw) (hl : out.length ≤ 1000000000) : zy Go.Proofs.Try.prog 59 [.agg (rwE x), rwL out] [] (B (bel x out)) [] false := by
  rcases Nat.eq_zero_or_pos out.length with h0 | h0
  · rw [List.eq_nil_of_length_eq_zero h0]
    refine zw [4] Go.Proofs.Try.func59 rfl rfl ?_
    simp only [Go.Proofs.Try.ntmps59, List.length_cons, List.length_nil, Nat.reduceAdd, Nat.reduceSub, List.replicate_succ, List.replicate_zero, List.cons_append, List.nil_append]
    repeat' first | refine zK ?_ | refine zA ?_ | refine zL [] ?_ | (refine isA ?_; refine zf rfl ?_) | (refine isL ?_; refine zU rfl (by kernel_rfl) rfl rfl ?_) | (refine zb rfl ?_; refine zT rfl (by kernel_rfl) rfl rfl ?_) | exact yK rfl rfl rfl | refine zD ?_ | refine zB _ rfl (by kernel_rfl) ?_ | refine zV rfl ?_ | refine zW rfl ?_ | refine zC ?_ | with_reducible refine zO ?_ | refine zH ?_ | refine zI ?_ | (with_reducible first | refine zM ?_ | refine zN ?_ | refine zE ?_ | refine zG ?_ | refine zF ?_) | refine zP ?_
  · obtain ⟨y, hy⟩ : ∃ z, out[out.length - 1]? = some z := ⟨_, List.getElem?_eq_getElem (by omega)⟩
    have ew : IntKind.i64.wrap ((out.length : Int) - 1) = ((out.length - 1 : Nat) : Int) := by rw [IntKind.wrap_i64]; omega
    have e : bel x out = decide (yr x y < 0) := by unfold bel; rw [hy]; rfl
    refine zw [4] Go.Proofs.Try.func59 rfl rfl ?_
    simp only [Go.Proofs.Try.ntmps59, List.length_cons, List.length_nil, Nat.reduceAdd, Nat.reduceSub, List.replicate_succ, List.replicate_zero, List.cons_append, List.nil_append]
    repeat' first | refine zK ?_ | refine zA ?_ | refine zL [] ?_ | (refine isA ?_; refine zf rfl ?_) | (refine isL ?_; refine zU rfl (by kernel_rfl) rfl rfl ?_) | (refine zb rfl ?_; refine zT rfl (by kernel_rfl) rfl rfl ?_) | refine zD ?_ | refine zB _ rfl (by kernel_rfl) ?_ | refine zV rfl ?_ | refine zW rfl ?_ | refine zC ?_ | with_reducible refine zO ?_ | refine zH ?_ | refine zI ?_ | (with_reducible first | refine zM ?_ | refine zN ?_ | refine zE ?_ | refine zG ?_ | refine zF ?_) | refine zP ?_
    refine yI rfl rfl rfl rfl (fun p1 => ?_) (fun p1 => absurd (of_decide_eq_false p1) (by omega))
    repeat' first | refine zK ?_ | refine zA ?_ | refine zL [] ?_ | (refine isA ?_; refine zf rfl ?_) | (refine isL ?_; refine zU rfl (by kernel_rfl) rfl rfl ?_) | (refine zb rfl ?_; refine zT rfl (by kernel_rfl) rfl rfl ?_) | (refine yG ?_; refine zc rfl (z5 (t := rwT) (j := ((out.length - 1 : Nat) : Int)) (z := y) rfl rfl rfl (congrArg I ew) (Int.natCast_nonneg _) hy) rfl ?_) | (refine yF rfl ?_; refine zX rfl (by kernel_rfl) rfl (z5 (t := rwT) (j := ((out.length - 1 : Nat) : Int)) (z := y) rfl rfl rfl (congrArg I ew) (Int.natCast_nonneg _) hy) rfl ?_) | (refine zu 64 ?_; refine zc rfl (zQ rfl (xb x y) (.cons (.same rfl) (.cons (.same rfl) .nil)) rfl) rfl ?_) | (refine zv 64 rfl ?_; refine zX rfl (by kernel_rfl) rfl (zQ rfl (xb x y) (.cons (.same rfl) (.cons (.same rfl) .nil)) rfl) rfl ?_) | exact yK rfl rfl (by rw [e]) | refine zD ?_ | refine zB _ rfl (by kernel_rfl) ?_ | refine zV rfl ?_ | refine zW rfl ?_ | refine zC ?_ | with_reducible refine zO ?_ | refine zH ?_ | refine zI ?_ | (with_reducible first | refine zM ?_ | refine zN ?_ | refine zE ?_ | refine zG ?_ | refine zF ?_) | refine zP ?_
end Go.Proofs.Ytojcojanokhnaaa.Ab
namespace Go.Proofs.Ytojcojanokhnaaa.Ab
open Go.RowKit
def sf (r : Rn) : Bool := !decide (r.length = 0) && (vb r && avR r)
theorem gH {rs : List Rn} {i : Nat} {z : Rn} (hz : rs[i]? = some z) (h : sf z = false) : avS rs = false := by
  cases e : avS rs with
  | false => rfl
  | true =>
    have := List.all_eq_true.1 e z (List.mem_of_getElem? hz)
    rw [show (!decide (z.length = 0) && (vb z && avR z)) = sf z from rfl, h] at this
    cases this
theorem mO {rs : List Rn} (h : ∀ j z, j < rs.length → rs[j]? = some z → sf z = true) : avS rs = true := List.all_eq_true.2 fun z hz => by
  obtain ⟨j, hj⟩ := List.getElem?_of_mem hz
  exact h j z (List.getElem?_eq_some_iff.1 hj).1 hj
theorem lw {z : Rn} : sf z = (!decide ((z.length : Int) = 0) && (vb z && avR z)) := by
  unfold sf
  congr 2
  exact decide_eq_decide.2 (by omega)
theorem qy {rs : List Rn} {i : Nat} {z : Rn} (hb : ∀ j z, j < i → rs[j]? = some z → sf z = true) (hz : rs[i]? = some z) (h : sf z = true) : ∀ j z, j < i + 1 → rs[j]? = some z → sf z = true := fun j y hj hy => by
  rcases Nat.lt_or_ge j i with hlt | hge
  · exact hb j y hlt hy
  · obtain rfl : j = i := by omega
    rw [hz] at hy
    cases hy
    exact h
theorem dA (rs : List Rn) (hok : tZ rs) : zy Go.Proofs.Try.prog 76 [rnL rs] [] (B (avS rs)) [] false := by
  have hl := hok.1
  refine zw [2] Go.Proofs.Try.func76 rfl rfl ?_
  simp only [Go.Proofs.Try.ntmps76, List.length_cons, List.length_nil, Nat.reduceAdd, Nat.reduceSub, List.replicate_succ, List.replicate_zero, List.cons_append, List.nil_append]
  repeat' first | refine zK ?_ | refine zA ?_ | refine zL [] ?_ | (refine isA ?_; refine zf rfl ?_) | (refine isL ?_; refine zU rfl (by kernel_rfl) rfl rfl ?_) | (refine zb rfl ?_; refine zT rfl (by kernel_rfl) rfl rfl ?_) | refine zD ?_ | refine zB _ rfl (by kernel_rfl) ?_ | refine zV rfl ?_ | refine zW rfl ?_ | refine zC ?_ | with_reducible refine zO ?_ | refine zH ?_ | refine zI ?_ | (with_reducible first | refine zM ?_ | refine zN ?_ | refine zE ?_ | refine zG ?_ | refine zF ?_) | refine zP ?_
  refine z9 (α := { i : Nat // i ≤ rs.length ∧ ∀ j z, j < i → rs[j]? = some z → sf z = true }) (fun i => ⟨[.any, .any, .any, .any, .any, rnL rs, I rs.length, I i.1, .any, .any, .any, .any, .any, .any, .any, .any, .any, .any, .any, .any, .any, .any, .any, .any, .any, .any, .any, .any], [], 0⟩) (fun i => rs.length - i.1) ⟨0, Nat.zero_le _, fun j z h => absurd h (Nat.not_lt_zero j)⟩ ?_ ?_
  · exact yb [] rfl rfl (by decide) .nil (by repeat' first | exact zg | refine zZ ?_ ?_ | exact zo | exact le_refl rfl | exact zj rfl rfl | exact zt rfl)
  · rintro ⟨i, hi, hb⟩
    repeat' first | refine zK ?_ | refine zA ?_ | refine zL [] ?_ | (refine isA ?_; refine zf rfl ?_) | (refine isL ?_; refine zU rfl (by kernel_rfl) rfl rfl ?_) | (refine zb rfl ?_; refine zT rfl (by kernel_rfl) rfl rfl ?_) | refine zD ?_ | refine zB _ rfl (by kernel_rfl) ?_ | refine zV rfl ?_ | refine zW rfl ?_ | refine zC ?_ | with_reducible refine zO ?_ | refine zH ?_ | refine zI ?_ | (with_reducible first | refine zM ?_ | refine zN ?_ | refine zE ?_ | refine zG ?_ | refine zF ?_) | refine zP ?_
    refine zd rfl (fun h => ?_) (fun h => ?_)
    · have hlt : i < rs.length := by simpa using h
      obtain ⟨z, hz⟩ : ∃ z, rs[i]? = some z := ⟨_, List.getElem?_eq_getElem hlt⟩
      have zl := hok.at hz
      have hno := gH hz
      have hyes := qy hb hz
      rw [lw] at hno hyes
      have c1 := j7 z zl
      have c2 := j9 z zl
      generalize vb z = p at hno hyes c1
      generalize avR z = q at hno hyes c2
      repeat' first | refine zK ?_ | refine zA ?_ | refine zL [] ?_ | (refine isA ?_; refine zf rfl ?_) | (refine isL ?_; refine zU rfl (by kernel_rfl) rfl rfl ?_) | (refine zb rfl ?_; refine zT rfl (by kernel_rfl) rfl rfl ?_) | (refine yG ?_; refine zc rfl (z5 (t := rnT) (z := z) rfl rfl rfl rfl (Int.natCast_nonneg i) hz) rfl ?_) | (refine yF rfl ?_; refine zX rfl (by kernel_rfl) rfl (z5 (t := rnT) (z := z) rfl rfl rfl rfl (Int.natCast_nonneg i) hz) rfl ?_) | (refine zu 77 ?_; refine zc rfl (zQ rfl c1 (.cons (.same rfl) .nil) rfl) rfl ?_) | (refine zv 77 rfl ?_; refine zX rfl (by kernel_rfl) rfl (zQ rfl c1 (.cons (.same rfl) .nil) rfl) rfl ?_) | (refine zu 74 ?_; refine zc rfl (zQ rfl c2 (.cons (.same rfl) .nil) rfl) rfl ?_) | (refine zv 74 rfl ?_; refine zX rfl (by kernel_rfl) rfl (zQ rfl c2 (.cons (.same rfl) .nil) rfl) rfl ?_) | refine zD ?_ | refine zB _ rfl (by kernel_rfl) ?_ | refine zV rfl ?_ | refine zW rfl ?_ | refine zC ?_ | with_reducible refine zO ?_ | refine zH ?_ | refine zI ?_ | (with_reducible first | refine zM ?_ | refine zN ?_ | refine zE ?_ | refine zG ?_ | refine zF ?_) | refine zP ?_ | refine zd rfl (fun hbr => ?_) (fun hbr => ?_) | (refine wB ?_; refine yW rfl rfl (fun hbr => ?_) (fun hbr => ?_) <;> (fail_if_success (with_reducible (have hx : true = true := hbr))) <;> (fail_if_success (with_reducible (have hx : false = false := hbr)))) | (refine zb rfl ?_; refine yI rfl rfl rfl rfl (fun hbr => ?_) (fun hbr => ?_) <;> (fail_if_success (with_reducible (have hx : true = true := hbr))) <;> (fail_if_success (with_reducible (have hx : false = false := hbr))))
      all_goals first
        | exact yK rfl rfl (congrArg B (hno (by simp_all)).symm)
        | (refine ⟨⟨i + 1, hlt, hyes (by simp_all)⟩, by simp only; omega, ?_⟩; exact yb [] rfl rfl (by decide) .nil (by repeat' first | exact zg | refine zZ ?_ ?_ | exact zo | exact le_refl rfl | exact zj rfl rfl | exact zt rfl | exact xI (by assumption) (by omega)))
    · have hge : i = rs.length := by
        have : ¬ ((i : Int) < rs.length) := by simpa using h
        omega
      subst hge
      repeat' first | refine zK ?_ | refine zA ?_ | refine zL [] ?_ | (refine isA ?_; refine zf rfl ?_) | (refine isL ?_; refine zU rfl (by kernel_rfl) rfl rfl ?_) | (refine zb rfl ?_; refine zT rfl (by kernel_rfl) rfl rfl ?_) | exact yK rfl rfl (by rw [mO hb]) | refine zD ?_ | refine zB _ rfl (by kernel_rfl) ?_ | refine zV rfl ?_ | refine zW rfl ?_ | refine zC ?_ | with_reducible refine zO ?_ | refine zH ?_ | refine zI ?_ | (with_reducible first | refine zM ?_ | refine zN ?_ | refine zE ?_ | refine zG ?_ | refine zF ?_) | refine zP ?_
theorem el (rs : List Rn) (hok : tZ rs) : zy Go.Proofs.Try.prog 83 [rnL rs] [] (B (avS rs)) [] false := by
  have hl := hok.1
  refine zw [2] Go.Proofs.Try.func83 rfl rfl ?_
  simp only [Go.Proofs.Try.ntmps83, List.length_cons, List.length_nil, Nat.reduceAdd, Nat.reduceSub, List.replicate_succ, List.replicate_zero, List.cons_append, List.nil_append]
  repeat' first | refine zK ?_ | refine zA ?_ | refine zL [] ?_ | (refine isA ?_; refine zf rfl ?_) | (refine isL ?_; refine zU rfl (by kernel_rfl) rfl rfl ?_) | (refine zb rfl ?_; refine zT rfl (by kernel_rfl) rfl rfl ?_) | refine zD ?_ | refine zB _ rfl (by kernel_rfl) ?_ | refine zV rfl ?_ | refine zW rfl ?_ | refine zC ?_ | with_reducible refine zO ?_ | refine zH ?_ | refine zI ?_ | (with_reducible first | refine zM ?_ | refine zN ?_ | refine zE ?_ | refine zG ?_ | refine zF ?_) | refine zP ?_
  refine z9 (α := { i : Nat // i ≤ rs.length ∧ ∀ j z, j < i → rs[j]? = some z → sf z = true }) (fun i => ⟨[rnL rs, .any, .any, I i.1, .any, .any, .any, .any, .any, .any, .any, .any, .any, .any, .any, .any, .any, .any, .any, .any, .any, .any, .any, .any, .any, .any, .any, .any, .any, .any, .any, .any, .any, .any, .any], [], 0⟩) (fun i => rs.length - i.1) ⟨0, Nat.zero_le _, fun j z h => absurd h (Nat.not_lt_zero j)⟩ ?_ ?_
  · exact yb [] rfl rfl (by decide) .nil (by repeat' first | exact zg | refine zZ ?_ ?_ | exact zo | exact le_refl rfl | exact zj rfl rfl | exact zt rfl)
  · rintro ⟨i, hi, hb⟩
    repeat' first | refine zK ?_ | refine zA ?_ | refine zL [] ?_ | (refine isA ?_; refine zf rfl ?_) | (refine isL ?_; refine zU rfl (by kernel_rfl) rfl rfl ?_) | (refine zb rfl ?_; refine zT rfl (by kernel_rfl) rfl rfl ?_) | refine zD ?_ | refine zB _ rfl (by kernel_rfl) ?_ | refine zV rfl ?_ | refine zW rfl ?_ | refine zC ?_ | with_reducible refine zO ?_ | refine zH ?_ | refine zI ?_ | (with_reducible first | refine zM ?_ | refine zN ?_ | refine zE ?_ | refine zG ?_ | refine zF ?_) | refine zP ?_
    refine zd rfl (fun h => ?_) (fun h => ?_)
    · have hlt : i < rs.length := by simpa using h
      obtain ⟨z, hz⟩ : ∃ z, rs[i]? = some z := ⟨_, List.getElem?_eq_getElem hlt⟩
      have zl := hok.at hz
      have hno := gH hz
      have hyes := qy hb hz
      rw [lw] at hno hyes
      have c1 := jo z zl
      have c2 := qh z zl
      generalize vb z = p at hno hyes c1
      generalize avR z = q at hno hyes c2
      repeat' first | refine zK ?_ | refine zA ?_ | refine zL [] ?_ | (refine isA ?_; refine zf rfl ?_) | (refine isL ?_; refine zU rfl (by kernel_rfl) rfl rfl ?_) | (refine zb rfl ?_; refine zT rfl (by kernel_rfl) rfl rfl ?_) | (refine yG ?_; refine zc rfl (z5 (t := rnT) (z := z) rfl rfl rfl rfl (Int.natCast_nonneg i) hz) rfl ?_) | (refine yF rfl ?_; refine zX rfl (by kernel_rfl) rfl (z5 (t := rnT) (z := z) rfl rfl rfl rfl (Int.natCast_nonneg i) hz) rfl ?_) | (refine zu 84 ?_; refine zc rfl (zQ rfl c1 (.cons (.same rfl) .nil) rfl) rfl ?_) | (refine zv 84 rfl ?_; refine zX rfl (by kernel_rfl) rfl (zQ rfl c1 (.cons (.same rfl) .nil) rfl) rfl ?_) | (refine zu 25 ?_; refine zc rfl (zQ rfl c2 (.cons (.same rfl) .nil) rfl) rfl ?_) | (refine zv 25 rfl ?_; refine zX rfl (by kernel_rfl) rfl (zQ rfl c2 (.cons (.same rfl) .nil) rfl) rfl ?_) | refine zD ?_ | refine zB _ rfl (by kernel_rfl) ?_ | refine zV rfl ?_ | refine zW rfl ?_ | refine zC ?_ | with_reducible refine zO ?_ | refine zH ?_ | refine zI ?_ | (with_reducible first | refine zM ?_ | refine zN ?_ | refine zE ?_ | refine zG ?_ | refine zF ?_) | refine zP ?_ | refine zd rfl (fun hbr => ?_) (fun hbr => ?_) | (refine wB ?_; refine yW rfl rfl (fun hbr => ?_) (fun hbr => ?_) <;> (fail_if_success (with_reducible (have hx : true = true := hbr))) <;> (fail_if_success (with_reducible (have hx : false = false := hbr)))) | (refine zb rfl ?_; refine yI rfl rfl rfl rfl (fun hbr => ?_) (fun hbr => ?_) <;> (fail_if_success (with_reducible (have hx : true = true := hbr))) <;> (fail_if_success (with_reducible (have hx : false = false := hbr))))
      all_goals first
        | exact yK rfl rfl (congrArg B (hno (by simp_all)).symm)
        | (refine ⟨⟨i + 1, hlt, hyes (by simp_all)⟩, by simp only; omega, ?_⟩; exact yb [] rfl rfl (by decide) .nil (by repeat' first | exact zg | refine zZ ?_ ?_ | exact zo | exact le_refl rfl | exact zj rfl rfl | exact zt rfl | exact xI (by assumption) (by omega)))
    · have hge : i = rs.length := by
        have : ¬ ((i : Int) < rs.length) := by simpa using h
        omega
      subst hge
      repeat' first | refine zK ?_ | refine zA ?_ | refine zL [] ?_ | (refine isA ?_; refine zf rfl ?_) | (refine isL ?_; refine zU rfl (by kernel_rfl) rfl rfl ?_) | (refine zb rfl ?_; refine zT rfl (by kernel_rfl) rfl rfl ?_) | exact yK rfl rfl (by rw [mO hb]) | refine zD ?_ | refine zB _ rfl (by kernel_rfl) ?_ | refine zV rfl ?_ | refine zW rfl ?_ | refine zC ?_ | with_reducible refine zO ?_ | refine zH ?_ | refine zI ?_ | (with_reducible first | refine zM ?_ | refine zN ?_ | refine zE ?_ | refine zG ?_ | refine zF ?_) | refine zP ?_
end Go.Proofs.Ytojcojanokhnaaa.Ab
namespace Go.Proofs.Ytojcojanokhnaaa.Ab
open Go.RowKit
def rwI (x : Rw) : List Int := [x.a, x.b, x.c]
def rwD (x y : Rw) : Bool := decide (rwI x = rwI y)
theorem s3 {o : Oper} {ρ : Operand → V} {H : List Reg} {t' : TypeId} {x y : Operand} {a b : Rw} (ho : o.op = .binOp .neq 78 x y t') (hx : ρ x = .agg (rwE a)) (hy : ρ y = .agg (rwE b)) : z7 Go.Proofs.Try.prog o ρ H (B (!rwD a b)) H :=
  mZ (us := rwI a) (bs := rwI b) _ (kL Go.Proofs.Try.underlying78 (by kernel_rfl) (by kernel_rfl) (by kernel_rfl)) ho hx hy rfl rfl
theorem ng {x y : Rw} : rwD x y = true ↔ x = y := by
  cases x; cases y
  simp [rwD, rwI]
def xO : List Rw → List Rw → Bool
  | [], [] => true
  | x :: xs, y :: ys => rwD x y && xO xs ys
  | _, _ => false
theorem vK : ∀ {xs ys : List Rw}, xO xs ys = true ↔ xs = ys
  | [], [] => by simp [xO]
  | x :: xs, y :: ys => by simp only [xO, Bool.and_eq_true, ng, vK, List.cons.injEq]
  | [], y :: ys => by simp [xO]
  | x :: xs, [] => by simp [xO]
theorem uo {xs ys : List Rw} (h : xs.length ≠ ys.length) : xO xs ys = false := by
  cases he : xO xs ys with
  | false => rfl
  | true => exact absurd (congrArg List.length (vK.1 he)) h
theorem qd {xs ys : List Rw} {i : Nat} {x y : Rw} (hx : xs[i]? = some x) (hy : ys[i]? = some y) : xO (xs.drop i) (ys.drop i) = (rwD x y && xO (xs.drop (i + 1)) (ys.drop (i + 1))) := by
  rw [yE hx, yE hy, xO]
end Go.Proofs.Ytojcojanokhnaaa.Ab
namespace Go.Proofs.Ytojcojanokhnaaa.Ab
open Go.RowKit
def eqB (xs ys : List Rw) : Bool := xO (yJ xs) (yJ ys)
theorem v4 {xs ys : List Rw} : eqB xs ys = true ↔ xs.Perm ys := by
  unfold eqB
  rw [vK]
  constructor
  · intro h
    have h1 := yY xs
    rw [h] at h1
    exact h1.symm.trans (yY ys)
  · intro h
    exact wb (xE _) ((yY xs).trans h)
end Go.Proofs.Ytojcojanokhnaaa.Ab
namespace Go.Proofs.Ytojcojanokhnaaa.Ab
open Go.RowKit
theorem mM (xs ys : List Rw) (h1 : xs.length ≤ 100000000) (h2 : ys.length ≤ 100000000) : zy Go.Proofs.Try.prog 86 [rwL xs, rwL ys] [] (B (eqB xs ys)) [] false := by
  have s1 := (mJ xs h1).frozen (zq rfl)
  have s2 := (mJ ys h2).frozen (zq rfl)
  have l1 := wQ xs
  have l2 := wQ ys
  show zy Go.Proofs.Try.prog 86 [rwL xs, rwL ys] [] (B (xO (yJ xs) (yJ ys))) [] false
  generalize yJ xs = us at s1 l1 ⊢
  generalize yJ ys = vs at s2 l2 ⊢
  refine zw [4] Go.Proofs.Try.func86 rfl rfl ?_
  simp only [Go.Proofs.Try.ntmps86, List.length_cons, List.length_nil, Nat.reduceAdd, Nat.reduceSub, List.replicate_succ, List.replicate_zero, List.cons_append, List.nil_append]
  repeat' first | refine zK ?_ | refine zA ?_ | refine zL [] ?_ | (refine isA ?_; refine zf rfl ?_) | (refine isL ?_; refine zU rfl (by kernel_rfl) rfl rfl ?_) | (refine zb rfl ?_; refine zT rfl (by kernel_rfl) rfl rfl ?_) | (refine zu 28 (x := #[.tmp 8]) ?_; refine zc rfl (zQ rfl s1 (.cons (.same rfl) .nil) rfl) rfl ?_) | (refine zv 28 (x := #[.tmp 8]) rfl ?_; refine zX rfl (by kernel_rfl) rfl (zQ rfl s1 (.cons (.same rfl) .nil) rfl) rfl ?_) | (refine zu 28 (x := #[.tmp 10]) ?_; refine zc rfl (zQ rfl s2 (.cons (.same rfl) .nil) rfl) rfl ?_) | (refine zv 28 (x := #[.tmp 10]) rfl ?_; refine zX rfl (by kernel_rfl) rfl (zQ rfl s2 (.cons (.same rfl) .nil) rfl) rfl ?_) | refine zD ?_ | refine zB _ rfl (by kernel_rfl) ?_ | refine zV rfl ?_ | refine zW rfl ?_ | refine zC ?_ | with_reducible refine zO ?_ | refine zH ?_ | refine zI ?_ | (with_reducible first | refine zM ?_ | refine zN ?_ | refine zE ?_ | refine zG ?_ | refine zF ?_) | refine zP ?_
  refine zd rfl (fun h => ?_) (fun h => ?_)
  · have hne : us.length ≠ vs.length := by have : ¬ ((us.length : Int) = vs.length) := (by simpa using h); omega
    repeat' first | refine zK ?_ | refine zA ?_ | refine zL [] ?_ | (refine isA ?_; refine zf rfl ?_) | (refine isL ?_; refine zU rfl (by kernel_rfl) rfl rfl ?_) | (refine zb rfl ?_; refine zT rfl (by kernel_rfl) rfl rfl ?_) | exact yK rfl rfl (by rw [uo hne]) | refine zD ?_ | refine zB _ rfl (by kernel_rfl) ?_ | refine zV rfl ?_ | refine zW rfl ?_ | refine zC ?_ | with_reducible refine zO ?_ | refine zH ?_ | refine zI ?_ | (with_reducible first | refine zM ?_ | refine zN ?_ | refine zE ?_ | refine zG ?_ | refine zF ?_) | refine zP ?_
  have he : us.length = vs.length := by have : ((us.length : Int) = vs.length) := (by simpa using h); omega
  repeat' first | refine zK ?_ | refine zA ?_ | refine zL [] ?_ | (refine isA ?_; refine zf rfl ?_) | (refine isL ?_; refine zU rfl (by kernel_rfl) rfl rfl ?_) | (refine zb rfl ?_; refine zT rfl (by kernel_rfl) rfl rfl ?_) | refine zD ?_ | refine zB _ rfl (by kernel_rfl) ?_ | refine zV rfl ?_ | refine zW rfl ?_ | refine zC ?_ | with_reducible refine zO ?_ | refine zH ?_ | refine zI ?_ | (with_reducible first | refine zM ?_ | refine zN ?_ | refine zE ?_ | refine zG ?_ | refine zF ?_) | refine zP ?_
  refine z9 (α := { i : Nat // i ≤ us.length ∧ xO (us.drop i) (vs.drop i) = xO us vs }) (fun i => ⟨[.any, .any, .any, .any, .any, rwL us, rwL vs, I i.1, .any, .any, .any, .any, .any, .any, .any, .any, .any, .any, .any, .any, .any, .any, .any, .any, .any, .any, .any, .any, .any, .any, .any, .any], [], 0⟩) (fun i => us.length - i.1) ⟨0, Nat.zero_le _, rfl⟩ ?_ ?_
  · exact w4 rfl (by repeat' first | exact EqS.nil | refine EqS.any ?_ | refine EqS.same rfl ?_)
  · rintro ⟨i, hi, hq⟩
    repeat' first | refine zK ?_ | refine zA ?_ | refine zL [] ?_ | (refine isA ?_; refine zf rfl ?_) | (refine isL ?_; refine zU rfl (by kernel_rfl) rfl rfl ?_) | (refine zb rfl ?_; refine zT rfl (by kernel_rfl) rfl rfl ?_) | refine zD ?_ | refine zB _ rfl (by kernel_rfl) ?_ | refine zV rfl ?_ | refine zW rfl ?_ | refine zC ?_ | with_reducible refine zO ?_ | refine zH ?_ | refine zI ?_ | (with_reducible first | refine zM ?_ | refine zN ?_ | refine zE ?_ | refine zG ?_ | refine zF ?_) | refine zP ?_
    refine zd rfl (fun h => ?_) (fun h => ?_)
    · have hlt : i < us.length := by simpa using h
      obtain ⟨x, hx⟩ : ∃ z, us[i]? = some z := ⟨_, List.getElem?_eq_getElem hlt⟩
      obtain ⟨y, hy⟩ : ∃ z, vs[i]? = some z := ⟨_, List.getElem?_eq_getElem (by omega)⟩
      rw [qd hx hy] at hq
      repeat' first | refine zK ?_ | refine zA ?_ | refine zL [] ?_ | (refine isA ?_; refine zf rfl ?_) | (refine isL ?_; refine zU rfl (by kernel_rfl) rfl rfl ?_) | (refine zb rfl ?_; refine zT rfl (by kernel_rfl) rfl rfl ?_) | (refine yG (x := .tmp 23) ?_; refine zc rfl (z5 (t := rwT) (z := x) rfl rfl rfl rfl (Int.natCast_nonneg i) hx) rfl ?_) | (refine yF (x := .tmp 23) rfl ?_; refine zX rfl (by kernel_rfl) rfl (z5 (t := rwT) (z := x) rfl rfl rfl rfl (Int.natCast_nonneg i) hx) rfl ?_) | (refine yG (x := .tmp 27) ?_; refine zc rfl (z5 (t := rwT) (z := y) rfl rfl rfl rfl (Int.natCast_nonneg i) hy) rfl ?_) | (refine yF (x := .tmp 27) rfl ?_; refine zX rfl (by kernel_rfl) rfl (z5 (t := rwT) (z := y) rfl rfl rfl rfl (Int.natCast_nonneg i) hy) rfl ?_) | refine zc rfl (s3 rfl rfl rfl) rfl ?_ | refine zX rfl (by kernel_rfl) rfl (s3 rfl rfl rfl) rfl ?_ | refine zD ?_ | refine zB _ rfl (by kernel_rfl) ?_ | refine zV rfl ?_ | refine zW rfl ?_ | refine zC ?_ | with_reducible refine zO ?_ | refine zH ?_ | refine zI ?_ | (with_reducible first | refine zM ?_ | refine zN ?_ | refine zE ?_ | refine zG ?_ | refine zF ?_) | refine zP ?_
      refine zd rfl (fun h1 => ?_) (fun h1 => ?_)
      · have h2 : rwD x y = false := by simpa using h1
        rw [h2, Bool.false_and] at hq
        repeat' first | refine zK ?_ | refine zA ?_ | refine zL [] ?_ | (refine isA ?_; refine zf rfl ?_) | (refine isL ?_; refine zU rfl (by kernel_rfl) rfl rfl ?_) | (refine zb rfl ?_; refine zT rfl (by kernel_rfl) rfl rfl ?_) | exact yK rfl rfl (congrArg B hq) | refine zD ?_ | refine zB _ rfl (by kernel_rfl) ?_ | refine zV rfl ?_ | refine zW rfl ?_ | refine zC ?_ | with_reducible refine zO ?_ | refine zH ?_ | refine zI ?_ | (with_reducible first | refine zM ?_ | refine zN ?_ | refine zE ?_ | refine zG ?_ | refine zF ?_) | refine zP ?_
      · have h2 : rwD x y = true := by simpa using h1
        rw [h2, Bool.true_and] at hq
        repeat' first | refine zK ?_ | refine zA ?_ | refine zL [] ?_ | (refine isA ?_; refine zf rfl ?_) | (refine isL ?_; refine zU rfl (by kernel_rfl) rfl rfl ?_) | (refine zb rfl ?_; refine zT rfl (by kernel_rfl) rfl rfl ?_) | refine zD ?_ | refine zB _ rfl (by kernel_rfl) ?_ | refine zV rfl ?_ | refine zW rfl ?_ | refine zC ?_ | with_reducible refine zO ?_ | refine zH ?_ | refine zI ?_ | (with_reducible first | refine zM ?_ | refine zN ?_ | refine zE ?_ | refine zG ?_ | refine zF ?_) | refine zP ?_
        refine ⟨⟨i + 1, hlt, hq⟩, by simp only; omega, ?_⟩
        exact w4 rfl (by repeat' first | exact EqS.nil | refine EqS.any ?_ | refine EqS.same rfl ?_ | refine EqS.same (nF (by assumption) (by omega)) ?_)
    · have hge : i = us.length := by
        have : ¬ ((i : Int) < us.length) := by simpa using h
        omega
      subst hge
      have hq' : xO us vs = true := by rw [← hq, List.drop_length, he, List.drop_length]; rfl
      repeat' first | refine zK ?_ | refine zA ?_ | refine zL [] ?_ | (refine isA ?_; refine zf rfl ?_) | (refine isL ?_; refine zU rfl (by kernel_rfl) rfl rfl ?_) | (refine zb rfl ?_; refine zT rfl (by kernel_rfl) rfl rfl ?_) | exact yK rfl rfl (by rw [hq']) | refine zD ?_ | refine zB _ rfl (by kernel_rfl) ?_ | refine zV rfl ?_ | refine zW rfl ?_ | refine zC ?_ | with_reducible refine zO ?_ | refine zH ?_ | refine zI ?_ | (with_reducible first | refine zM ?_ | refine zN ?_ | refine zE ?_ | refine zG ?_ | refine zF ?_) | refine zP ?_
end Go.Proofs.Ytojcojanokhnaaa.Ab
namespace Go.Proofs.Ytojcojanokhnaaa.Ab
open Go.RowKit
def tz (xs : List Rw) (a b : Nat) : List Rw := xs.take a ++ (yJ ((xs.drop a).take (b - a)) ++ xs.drop b)
theorem lm {xs : List Rw} {a : Nat} (h : a < xs.length) : tz xs a (a + 1) = xs := by
  obtain ⟨x, hx⟩ : ∃ z, xs[a]? = some z := ⟨_, List.getElem?_eq_getElem h⟩
  have e : xs.drop a = x :: xs.drop (a + 1) := yE hx
  rw [tz, e, show a + 1 - a = 1 by omega]
  show xs.take a ++ ([x] ++ xs.drop (a + 1)) = xs
  rw [List.singleton_append, ← e, List.take_append_drop]
theorem mi {xs : List Rw} {a i : Nat} {x : Rw} (h : a ≤ i) (hx : xs[i]? = some x) : yJ ((xs.drop a).take (i + 1 - a)) = uj x (yJ ((xs.drop a).take (i - a))) := by
  have : (xs.drop a)[i - a]? = some x := by rw [List.getElem?_drop, show a + (i - a) = i by omega]; exact hx
  rw [show i + 1 - a = (i - a) + 1 by omega, List.take_add_one, this]
  exact sr _ _
theorem s5 {A B : List Rw} {x : Rw} (hs : Srt (A ++ B)) (hB : ∀ z ∈ B, ¬ leW z x) (hA : ∀ y A', A = A' ++ [y] → leW y x) : A ++ x :: B = uj x (A ++ B) := by
  have h := nE (k := A.length) hs (by simp) (fun j z hj hz => by
    rw [List.getElem?_append_right hj] at hz
    exact hB z (List.mem_of_getElem? hz)) (fun z h0 hz => by
    rw [List.getElem?_append_left (by omega)] at hz
    refine hA z A.dropLast ?_
    have hne : A ≠ [] := by intro e; subst e; simp at h0
    have : A.getLast hne = z := by
      rw [List.getLast_eq_getElem]
      exact (List.getElem?_eq_some_iff.1 hz).2
    rw [← this]
    exact (List.dropLast_concat_getLast hne).symm)
  rw [List.take_left', List.drop_left'] at h
  · exact h
  · rfl
  · rfl
theorem nW {U W : List Rw} {x y : Rw} {u : Nat} (hu : U.length = u) : ((U ++ y :: x :: W).set (u + 1) y).set u x = U ++ x :: y :: W := by
  subst hu
  rw [List.set_append_right _ _ (by omega), show U.length + 1 - U.length = 1 by omega]
  show (U ++ y :: y :: W).set U.length x = _
  rw [List.set_append_right _ _ (Nat.le_refl _), Nat.sub_self]
  rfl
theorem um {l : List V} {H : List Reg} {K : List Reg} (k : Nat) (ψ : List Nat) (hfix : ∀ i, i < k → ψ[i]? = some i) (hnd : ψ.Nodup) (hH : HLes ψ H ψ K) : (Exit.normal = .ret ∨ Exit.normal = .normal) ∧ Out true (.tup []) K (vk ⟨l, H, k⟩ []) ⟨l, H, k⟩ :=
  ⟨Or.inr rfl, vm (S := ⟨l, H, k⟩) ψ hfix (wX hnd hH) (nD zg) (Or.inl rfl)⟩
theorem jy (xs : List Rw) (a b : Nat) (h1 : a < b) (h2 : b ≤ xs.length) (hl : xs.length ≤ 100000000) : zy Go.Proofs.Try.prog 130 [.sl 0 0 xs.length, I a, I b, .fn 64 []] [rwR xs] (.tup []) [rwR (tz xs a b)] true := by
  refine zw [] Go.Proofs.Try.func130 rfl rfl ?_
  simp only [Go.Proofs.Try.ntmps130, List.length_cons, List.length_nil, Nat.reduceAdd, Nat.reduceSub, List.replicate_succ, List.replicate_zero, List.cons_append, List.nil_append]
  repeat' first | refine zK ?_ | refine zA ?_ | refine zL [] ?_ | (refine isA ?_; refine zf rfl ?_) | (refine isL ?_; refine zU rfl (by kernel_rfl) rfl rfl ?_) | (refine zb rfl ?_; refine zT rfl (by kernel_rfl) rfl rfl ?_) | refine zD ?_ | refine zB _ rfl (by kernel_rfl) ?_ | refine zV rfl ?_ | refine zW rfl ?_ | refine zC ?_ | with_reducible refine zO ?_ | refine zH ?_ | refine zI ?_ | (with_reducible first | refine zM ?_ | refine zN ?_ | refine zE ?_ | refine zG ?_ | refine zF ?_) | refine zP ?_
  refine z9 (α := { i : Nat // a + 1 ≤ i ∧ i ≤ b }) (fun i => ⟨[.sl 0 0 xs.length, I a, I b, .fn 64 [], .any, .any, .any, .any, I i.1, .any, .any, .any, .any, .any, .any, .any, .any, .any, .any, .any, .any, .any, .any, .any, .any, .any, .any, .any, .any, .any, .any, .any, .any, .any, .any, .any, .any, .any, .any, .any, .any, .any, .any, .any, .any, .any, .any, .any, .any, .any, .any, .any, .any], [rwR (tz xs a i.1)], 1⟩) (fun i => b - i.1) ⟨a + 1, Nat.le_refl _, h1⟩ ?_ ?_
  · exact yy 1 [0] rfl rfl yZ (by decide) (.cons rfl rfl rfl rfl (yh (by rw [lm (by omega)]) (zJ _ _)) .nil) (by
      repeat' first | exact zg | refine zZ ?_ ?_ | exact zo | exact le_refl rfl | exact zj rfl rfl | exact z8 (congrArg _ (show ((a + 1 : Nat) : Int) = IntKind.i64.wrap ((a : Int) + 1) by rw [IntKind.wrap_i64]; omega)))
  · rintro ⟨i, hi0, hi1⟩
    repeat' first | refine zK ?_ | refine zA ?_ | refine zL [] ?_ | (refine isA ?_; refine zf rfl ?_) | (refine isL ?_; refine zU rfl (by kernel_rfl) rfl rfl ?_) | (refine zb rfl ?_; refine zT rfl (by kernel_rfl) rfl rfl ?_) | refine zD ?_ | refine zB _ rfl (by kernel_rfl) ?_ | refine zV rfl ?_ | refine zW rfl ?_ | refine zC ?_ | with_reducible refine zO ?_ | refine zH ?_ | refine zI ?_ | (with_reducible first | refine zM ?_ | refine zN ?_ | refine zE ?_ | refine zG ?_ | refine zF ?_) | refine zP ?_
    refine zd rfl (fun h => ?_) (fun h => ?_)
    · have hlt : i < b := by have := of_decide_eq_true h; simp only at this; omega
      obtain ⟨x, hx⟩ : ∃ z, xs[i]? = some z := ⟨_, List.getElem?_eq_getElem (by omega)⟩
      have e1 := mi (a := a) (by omega) hx
      have hso := xE ((xs.drop a).take (i - a))
      have hol : (yJ ((xs.drop a).take (i - a))).length = i - a := by rw [wQ]; simp; omega
      have eR : tz xs a (i + 1) = xs.take a ++ (yJ ((xs.drop a).take (i + 1 - a)) ++ xs.drop (i + 1)) := rfl
      have e0 : tz xs a i = xs.take a ++ (yJ ((xs.drop a).take (i - a)) ++ x :: xs.drop (i + 1)) := by rw [tz, yE hx]
      rw [e1] at eR
      generalize yJ ((xs.drop a).take (i - a)) = S at e0 eR hso hol
      have hP : (xs.take a).length = a := by simp; omega
      have hR : (xs.drop (i + 1)).length = xs.length - (i + 1) := by simp
      generalize xs.take a = P at e0 eR hP
      generalize xs.drop (i + 1) = R at e0 eR hR
      repeat' first | refine zK ?_ | refine zA ?_ | refine zL [] ?_ | (refine isA ?_; refine zf rfl ?_) | (refine isL ?_; refine zU rfl (by kernel_rfl) rfl rfl ?_) | (refine zb rfl ?_; refine zT rfl (by kernel_rfl) rfl rfl ?_) | refine zD ?_ | refine zB _ rfl (by kernel_rfl) ?_ | refine zV rfl ?_ | refine zW rfl ?_ | refine zC ?_ | with_reducible refine zO ?_ | refine zH ?_ | refine zI ?_ | (with_reducible first | refine zM ?_ | refine zN ?_ | refine zE ?_ | refine zG ?_ | refine zF ?_) | refine zP ?_
      refine z9 (α := { p : List Rw × List Rw // p.1 ++ p.2 = S ∧ ∀ z ∈ p.2, ¬ leW z x }) (fun p => ⟨[.sl 0 0 xs.length, I a, I b, .fn 64 [], .any, .any, .any, .any, I i, I ((a + p.1.1.length : Nat) : Int), .any, .any, .any, .any, .any, .any, .any, .any, .any, .any, .any, .any, .any, .any, .any, .any, .any, .any, .any, .any, .any, .any, .any, .any, .any, .any, .any, .any, .any, .any, .any, .any, .any, .any, .any, .any, .any, .any, .any, .any, .any, .any, .any], [rwR (P ++ p.1.1 ++ x :: p.1.2 ++ R)], 1⟩) (fun p => p.1.1.length) ⟨(S, []), List.append_nil _, fun z hz => by cases hz⟩ ?_ ?_
      · exact yy 1 [0] rfl rfl yZ (by decide) (.cons rfl rfl rfl rfl (yh (by rw [e0]; show rwT.flat _ = rwT.flat _; simp) (zJ _ _)) .nil) (by
          repeat' first | exact zg | refine zZ ?_ ?_ | exact zo | exact le_refl rfl | exact zj rfl rfl | exact z8 (congrArg _ (show ((a + S.length : Nat) : Int) = (i : Int) by omega)))
      · rintro ⟨⟨A, B⟩, hAB, hB⟩
        simp only at hAB hB
        have hlen : A.length + B.length = i - a := by rw [← hol, ← hAB, List.length_append]
        repeat' first | refine zK ?_ | refine zA ?_ | refine zL [] ?_ | (refine isA ?_; refine zf rfl ?_) | (refine isL ?_; refine zU rfl (by kernel_rfl) rfl rfl ?_) | (refine zb rfl ?_; refine zT rfl (by kernel_rfl) rfl rfl ?_) | refine zD ?_ | refine zB _ rfl (by kernel_rfl) ?_ | refine zV rfl ?_ | refine zW rfl ?_ | refine zC ?_ | with_reducible refine zO ?_ | refine zH ?_ | refine zI ?_ | (with_reducible first | refine zM ?_ | refine zN ?_ | refine zE ?_ | refine zG ?_ | refine zF ?_) | refine zP ?_
        refine yI rfl rfl rfl rfl (fun p1 => ?_) (fun p1 => ?_)
        · have q1 : 0 < A.length := by have := of_decide_eq_true p1; simp only at this; omega
          obtain ⟨A', y, rfl⟩ : ∃ A' y, A = A' ++ [y] := ⟨A.dropLast, A.getLast (by intro e; subst e; simp at q1), (List.dropLast_concat_getLast _).symm⟩
          have ej : ((a + (A' ++ [y]).length : Nat) : Int) = ((a + A'.length + 1 : Nat) : Int) := by simp; omega
          have ew : IntKind.i64.wrap (((a + (A' ++ [y]).length : Nat) : Int) - 1) = ((a + A'.length : Nat) : Int) := by rw [IntKind.wrap_i64]; simp; omega
          have hlA : (A' ++ [y]).length = A'.length + 1 := by simp
          have hds : P ++ (A' ++ [y]) ++ x :: B ++ R = (P ++ A') ++ y :: x :: (B ++ R) := by simp
          have hu : (P ++ A').length = a + A'.length := by simp [hP]
          have g1 : (P ++ (A' ++ [y]) ++ x :: B ++ R)[0 + (a + A'.length + 1)]? = some x := by
            rw [hds, List.getElem?_append_right (by omega), hu, show 0 + (a + A'.length + 1) - (a + A'.length) = 1 by omega]; rfl
          have g0 : (P ++ (A' ++ [y]) ++ x :: B ++ R)[0 + (a + A'.length)]? = some y := by
            rw [hds, List.getElem?_append_right (by omega), hu, show 0 + (a + A'.length) - (a + A'.length) = 0 by omega]; rfl
          repeat' first | refine zK ?_ | refine zA ?_ | refine zL [] ?_ | (refine isA ?_; refine zf rfl ?_) | (refine isL ?_; refine zU rfl (by kernel_rfl) rfl rfl ?_) | (refine zb rfl ?_; refine zT rfl (by kernel_rfl) rfl rfl ?_) | (refine yG (x := .tmp 23) ?_; refine zc rfl (z4 (j := ((a + A'.length + 1 : Nat) : Int)) rfl rfl rfl (Nat.zero_le _) rfl (congrArg I ej) (Int.natCast_nonneg _) (by omega)) rfl ?_) | (refine yF (x := .tmp 23) rfl ?_; refine zX rfl (by kernel_rfl) rfl (z4 (j := ((a + A'.length + 1 : Nat) : Int)) rfl rfl rfl (Nat.zero_le _) rfl (congrArg I ej) (Int.natCast_nonneg _) (by omega)) rfl ?_) | (refine yG (x := .tmp 27) ?_; refine zc rfl (z4 (j := ((a + A'.length : Nat) : Int)) rfl rfl rfl (Nat.zero_le _) rfl (congrArg I ew) (Int.natCast_nonneg _) (by omega)) rfl ?_) | (refine yF (x := .tmp 27) rfl ?_; refine zX rfl (by kernel_rfl) rfl (z4 (j := ((a + A'.length : Nat) : Int)) rfl rfl rfl (Nat.zero_le _) rfl (congrArg I ew) (Int.natCast_nonneg _) (by omega)) rfl ?_) | (refine wT (x := .tmp 25) ?_; refine zc rfl (xF (T := rwT) (i := 0 + (a + A'.length + 1)) (z := x) rfl rfl rfl g1) rfl ?_) | (refine wW (x := .tmp 25) rfl ?_; refine zX rfl (by kernel_rfl) rfl (xF (T := rwT) (i := 0 + (a + A'.length + 1)) (z := x) rfl rfl rfl g1) rfl ?_) | (refine wT (x := .tmp 30) ?_; refine zc rfl (xF (T := rwT) (i := 0 + (a + A'.length)) (z := y) rfl rfl rfl g0) rfl ?_) | (refine wW (x := .tmp 30) rfl ?_; refine zX rfl (by kernel_rfl) rfl (xF (T := rwT) (i := 0 + (a + A'.length)) (z := y) rfl rfl rfl g0) rfl ?_) | refine zc rfl (wO rfl rfl (xb x y) (.cons (.same rfl) (.cons (.same rfl) .nil)) rfl) rfl ?_ | refine zX rfl (by kernel_rfl) rfl (wO rfl rfl (xb x y) (.cons (.same rfl) (.cons (.same rfl) .nil)) rfl) rfl ?_ | refine zD ?_ | refine zB _ rfl (by kernel_rfl) ?_ | refine zV rfl ?_ | refine zW rfl ?_ | refine zC ?_ | with_reducible refine zO ?_ | refine zH ?_ | refine zI ?_ | (with_reducible first | refine zM ?_ | refine zN ?_ | refine zE ?_ | refine zG ?_ | refine zF ?_) | refine zP ?_
          refine zd rfl (fun p2 => ?_) (fun p2 => ?_)
          · have q2 := xN.1 (of_decide_eq_true p2)
            repeat' first | refine zK ?_ | refine zA ?_ | (refine isA ?_; refine zf rfl ?_) | (refine isL ?_; refine zU rfl (by kernel_rfl) rfl rfl ?_) | (refine zb rfl ?_; refine zT rfl (by kernel_rfl) rfl rfl ?_) | refine zD ?_ | refine zB _ rfl (by kernel_rfl) ?_ | refine zV rfl ?_ | refine zW rfl ?_ | refine zC ?_ | with_reducible refine zO ?_ | refine zH ?_ | refine zI ?_ | (with_reducible first | refine zM ?_ | refine zN ?_ | refine zE ?_ | refine zG ?_ | refine zF ?_) | refine zP ?_
            refine ql [15, 17] 18 rfl ?_
            refine ya 0 rfl (by kernel_rfl) rfl (fun _ => rfl) rfl ?_
            refine ya 1 rfl (by kernel_rfl) rfl (fun _ => rfl) rfl ?_
            refine ya 2 rfl (by kernel_rfl) rfl (fun _ => rfl) rfl ?_
            refine ya 3 rfl (by kernel_rfl) rfl (fun _ => rfl) rfl ?_
            refine ya 4 rfl (by kernel_rfl) rfl (fun _ => rfl) rfl ?_
            refine ya 5 rfl (by kernel_rfl) rfl (fun _ => rfl) rfl ?_
            refine ya 6 rfl (by kernel_rfl) rfl (fun _ => rfl) rfl ?_
            refine ya 7 rfl (by kernel_rfl) rfl (fun _ => rfl) rfl ?_
            refine xM 8 rfl (by kernel_rfl) rfl (z4 (j := ((a + A'.length : Nat) : Int)) rfl rfl rfl (Nat.zero_le _) rfl (congrArg I ew) (Int.natCast_nonneg _) (by omega)) rfl ?_
            refine xM 9 rfl (by kernel_rfl) rfl (xF (T := rwT) (i := 0 + (a + A'.length)) (z := y) rfl rfl rfl g0) rfl ?_
            refine ya 10 rfl (by kernel_rfl) rfl (fun _ => rfl) rfl ?_
            refine ya 11 rfl (by kernel_rfl) rfl (fun _ => rfl) rfl ?_
            refine xM 12 rfl (by kernel_rfl) rfl (z4 (j := ((a + A'.length + 1 : Nat) : Int)) rfl rfl rfl (Nat.zero_le _) rfl (congrArg I ej) (Int.natCast_nonneg _) (by omega)) rfl ?_
            refine xM 13 rfl (by kernel_rfl) rfl (xF (T := rwT) (i := 0 + (a + A'.length + 1)) (z := x) rfl rfl rfl g1) rfl ?_
            refine xM 14 rfl (by kernel_rfl) rfl (z4 (j := ((a + A'.length + 1 : Nat) : Int)) rfl rfl rfl (Nat.zero_le _) rfl (congrArg I ej) (Int.natCast_nonneg _) (by omega)) rfl ?_
            refine tR 15 rfl (by kernel_rfl) rfl rfl (tP (T := rwT) (i := 0 + (a + A'.length + 1)) (z := y) rfl rfl rfl rfl rfl (List.getElem?_eq_some_iff.1 g1).1) rfl ?_
            refine xM 16 rfl (by kernel_rfl) rfl (z4 (j := ((a + A'.length : Nat) : Int)) rfl rfl rfl (Nat.zero_le _) rfl (congrArg I ew) (Int.natCast_nonneg _) (by omega)) rfl ?_
            refine tR 17 rfl (by kernel_rfl) rfl rfl (tP (T := rwT) (i := 0 + (a + A'.length)) (z := x) rfl rfl rfl rfl rfl (by rw [List.length_set]; exact (List.getElem?_eq_some_iff.1 g0).1)) rfl ?_
            refine ud (by kernel_rfl) ?_
            repeat' first | refine zK ?_ | refine zA ?_ | refine zL [] ?_ | (refine isA ?_; refine zf rfl ?_) | (refine isL ?_; refine zU rfl (by kernel_rfl) rfl rfl ?_) | (refine zb rfl ?_; refine zT rfl (by kernel_rfl) rfl rfl ?_) | refine zD ?_ | refine zB _ rfl (by kernel_rfl) ?_ | refine zV rfl ?_ | refine zW rfl ?_ | refine zC ?_ | with_reducible refine zO ?_ | refine zH ?_ | refine zI ?_ | (with_reducible first | refine zM ?_ | refine zN ?_ | refine zE ?_ | refine zG ?_ | refine zF ?_) | refine zP ?_
            refine ⟨⟨(A', y :: B), by rw [← hAB]; simp, fun z hz => by
              rcases List.mem_cons.1 hz with rfl | hz
              · exact q2
              · exact hB z hz⟩, by simp only; omega, ?_⟩
            exact yy 1 [0] rfl rfl yZ (by decide) (.cons rfl rfl rfl rfl (yh (show rwT.flat (((P ++ (A' ++ [y]) ++ x :: B ++ R).set (0 + (a + A'.length + 1)) y).set (0 + (a + A'.length)) x) = rwT.flat (P ++ A' ++ x :: (y :: B) ++ R) by rw [hds, Nat.zero_add, Nat.zero_add, nW hu]; simp) (zJ _ _)) .nil) (by
              repeat' first | exact zg | refine zZ ?_ ?_ | exact zo | exact le_refl rfl | exact zj rfl rfl | exact z8 (congrArg _ ew.symm))
          · have q2 : leW y x := Classical.byContradiction fun hn => by have := xN.2 hn; exact absurd this (of_decide_eq_false p2)
            have hfin := s5 (x := x) (hAB ▸ hso) hB (fun z D hD => by have := List.append_inj' hD rfl; obtain ⟨_, hz⟩ := this; cases hz; exact q2)
            repeat' first | refine zK ?_ | refine zA ?_ | refine zL [] ?_ | (refine isA ?_; refine zf rfl ?_) | (refine isL ?_; refine zU rfl (by kernel_rfl) rfl rfl ?_) | (refine zb rfl ?_; refine zT rfl (by kernel_rfl) rfl rfl ?_) | refine zD ?_ | refine zB _ rfl (by kernel_rfl) ?_ | refine zV rfl ?_ | refine zW rfl ?_ | refine zC ?_ | with_reducible refine zO ?_ | refine zH ?_ | refine zI ?_ | (with_reducible first | refine zM ?_ | refine zN ?_ | refine zE ?_ | refine zG ?_ | refine zF ?_) | refine zP ?_
            refine ⟨⟨i + 1, by omega, by omega⟩, by simp only; omega, ?_⟩
            exact yy 1 [0] rfl rfl yZ (by decide) (.cons rfl rfl rfl rfl (yh (show rwT.flat (P ++ (A' ++ [y]) ++ x :: B ++ R) = rwT.flat (tz xs a (i + 1)) by rw [eR, ← hAB, ← hfin]; simp) (zJ _ _)) .nil) (by
              repeat' first | exact zg | refine zZ ?_ ?_ | exact zo | exact le_refl rfl | exact zj rfl rfl | exact xI hlt (by omega))
        · have q1 : A.length = 0 := by have := of_decide_eq_false p1; simp only at this; omega
          obtain rfl : A = [] := List.eq_nil_of_length_eq_zero q1
          have hfin := s5 (x := x) (hAB ▸ hso) hB (fun z D hD => by simp at hD)
          repeat' first | refine zK ?_ | refine zA ?_ | refine zL [] ?_ | (refine isA ?_; refine zf rfl ?_) | (refine isL ?_; refine zU rfl (by kernel_rfl) rfl rfl ?_) | (refine zb rfl ?_; refine zT rfl (by kernel_rfl) rfl rfl ?_) | refine zD ?_ | refine zB _ rfl (by kernel_rfl) ?_ | refine zV rfl ?_ | refine zW rfl ?_ | refine zC ?_ | with_reducible refine zO ?_ | refine zH ?_ | refine zI ?_ | (with_reducible first | refine zM ?_ | refine zN ?_ | refine zE ?_ | refine zG ?_ | refine zF ?_) | refine zP ?_
          refine ⟨⟨i + 1, by omega, by omega⟩, by simp only; omega, ?_⟩
          exact yy 1 [0] rfl rfl yZ (by decide) (.cons rfl rfl rfl rfl (yh (show rwT.flat (P ++ [] ++ x :: B ++ R) = rwT.flat (tz xs a (i + 1)) by rw [eR, ← hAB, ← hfin]; simp) (zJ _ _)) .nil) (by
            repeat' first | exact zg | refine zZ ?_ ?_ | exact zo | exact le_refl rfl | exact zj rfl rfl | exact xI hlt (by omega))
    · have hge : i = b := by have := of_decide_eq_false h; simp only at this; omega
      subst hge
      repeat' first | refine zK ?_ | refine zA ?_ | refine zL [] ?_ | (refine isA ?_; refine zf rfl ?_) | (refine isL ?_; refine zU rfl (by kernel_rfl) rfl rfl ?_) | (refine zb rfl ?_; refine zT rfl (by kernel_rfl) rfl rfl ?_) | exact um 1 [0] yZ (by decide) (.cons rfl rfl rfl rfl (zY (zJ _ _)) .nil) | refine zD ?_ | refine zB _ rfl (by kernel_rfl) ?_ | refine zV rfl ?_ | refine zW rfl ?_ | refine zC ?_ | with_reducible refine zO ?_ | refine zH ?_ | refine zI ?_ | (with_reducible first | refine zM ?_ | refine zN ?_ | refine zE ?_ | refine zG ?_ | refine zF ?_) | refine zP ?_
end Go.Proofs.Ytojcojanokhnaaa.Ab
namespace Go.Proofs.Ytojcojanokhnaaa.Ab
open Go.RowKit
def v6 (P X M Y Q : List Rw) (i : Nat) : List Rw := P ++ (Y.take i ++ X.drop i) ++ M ++ (X.take i ++ Y.drop i) ++ Q
theorem gU {U V W : List Rw} {x y : Rw} {u v : Nat} (hu : U.length = u) (hv : (U ++ x :: V).length = v) : ((U ++ x :: V ++ y :: W).set u y).set v x = U ++ y :: V ++ x :: W := by
  subst hu hv
  have h1 : (U ++ x :: V ++ y :: W).set U.length y = U ++ y :: V ++ y :: W := by
    rw [List.append_assoc, List.set_append_right _ _ (Nat.le_refl _), Nat.sub_self, List.append_assoc]; rfl
  have h2 : (U ++ x :: V).length = (U ++ y :: V).length := by simp
  rw [h1, h2, List.set_append_right _ _ (Nat.le_refl _), Nat.sub_self]
  rfl
theorem gr (P X M Y Q : List Rw) (n : Nat) (hX : X.length = n) (hY : Y.length = n) (hl : (P ++ X ++ M ++ Y ++ Q).length ≤ 100000000) : zy Go.Proofs.Try.prog 133 [.sl 0 0 (P ++ X ++ M ++ Y ++ Q).length, I P.length, I (P ++ X ++ M).length, I n, .fn 64 []] [rwR (P ++ X ++ M ++ Y ++ Q)] (.tup []) [rwR (P ++ Y ++ M ++ X ++ Q)] true := by
  have hlen : (P ++ X ++ M ++ Y ++ Q).length = P.length + n + M.length + n + Q.length := by simp [hX, hY]; omega
  have hb0 : (P ++ X ++ M).length = P.length + n + M.length := by simp [hX]; omega
  refine zw [] Go.Proofs.Try.func133 rfl rfl ?_
  simp only [Go.Proofs.Try.ntmps133, List.length_cons, List.length_nil, Nat.reduceAdd, Nat.reduceSub, List.replicate_succ, List.replicate_zero, List.cons_append, List.nil_append]
  repeat' first | refine zK ?_ | refine zA ?_ | refine zL [] ?_ | (refine isA ?_; refine zf rfl ?_) | (refine isL ?_; refine zU rfl (by kernel_rfl) rfl rfl ?_) | (refine zb rfl ?_; refine zT rfl (by kernel_rfl) rfl rfl ?_) | refine zD ?_ | refine zB _ rfl (by kernel_rfl) ?_ | refine zV rfl ?_ | refine zW rfl ?_ | refine zC ?_ | with_reducible refine zO ?_ | refine zH ?_ | refine zI ?_ | (with_reducible first | refine zM ?_ | refine zN ?_ | refine zE ?_ | refine zG ?_ | refine zF ?_) | refine zP ?_
  refine z9 (α := { i : Nat // i ≤ n }) (fun i => ⟨[.sl 0 0 (P ++ X ++ M ++ Y ++ Q).length, I P.length, I (P ++ X ++ M).length, I n, .any, .any, .any, .any, .any, .any, I i.1, .any, .any, .any, .any, .any, .any, .any, .any, .any, .any, .any, .any, .any, .any, .any, .any, .any, .any, .any, .any, .any, .any, .any, .any, .any, .any, .any], [rwR (v6 P X M Y Q i.1)], 1⟩) (fun i => n - i.1) ⟨0, Nat.zero_le _⟩ ?_ ?_
  · exact yy 1 [0] rfl rfl yZ (by decide) (.cons rfl rfl rfl rfl (yh (show rwT.flat (P ++ X ++ M ++ Y ++ Q) = rwT.flat (v6 P X M Y Q 0) by simp [v6]) (zJ _ _)) .nil) (by repeat' first | exact zg | refine zZ ?_ ?_ | exact zo | exact le_refl rfl | exact zj rfl rfl | exact zt rfl)
  · rintro ⟨i, hi⟩
    repeat' first | refine zK ?_ | refine zA ?_ | refine zL [] ?_ | (refine isA ?_; refine zf rfl ?_) | (refine isL ?_; refine zU rfl (by kernel_rfl) rfl rfl ?_) | (refine zb rfl ?_; refine zT rfl (by kernel_rfl) rfl rfl ?_) | refine zD ?_ | refine zB _ rfl (by kernel_rfl) ?_ | refine zV rfl ?_ | refine zW rfl ?_ | refine zC ?_ | with_reducible refine zO ?_ | refine zH ?_ | refine zI ?_ | (with_reducible first | refine zM ?_ | refine zN ?_ | refine zE ?_ | refine zG ?_ | refine zF ?_) | refine zP ?_
    refine zd rfl (fun h => ?_) (fun h => ?_)
    · have hlt : i < n := by have := of_decide_eq_true h; simp only at this; omega
      obtain ⟨x, hx⟩ : ∃ z, X[i]? = some z := ⟨_, List.getElem?_eq_getElem (by omega)⟩
      obtain ⟨y, hy⟩ : ∃ z, Y[i]? = some z := ⟨_, List.getElem?_eq_getElem (by omega)⟩
      have hL : v6 P X M Y Q i = (P ++ Y.take i) ++ x :: (X.drop (i + 1) ++ M ++ X.take i) ++ y :: (Y.drop (i + 1) ++ Q) := by
        rw [v6, yE hx, yE hy]; simp
      have hL2 : v6 P X M Y Q (i + 1) = (P ++ Y.take i) ++ y :: (X.drop (i + 1) ++ M ++ X.take i) ++ x :: (Y.drop (i + 1) ++ Q) := by
        rw [v6, yo hx, yo hy]; simp
      have hu : (P ++ Y.take i).length = P.length + i := by simp; omega
      have hv : ((P ++ Y.take i) ++ x :: (X.drop (i + 1) ++ M ++ X.take i)).length = (P ++ X ++ M).length + i := by simp; omega
      have ea : IntKind.i64.wrap ((P.length : Int) + (i : Int)) = ((P.length + i : Nat) : Int) := by rw [IntKind.wrap_i64]; omega
      have eb : IntKind.i64.wrap (((P ++ X ++ M).length : Int) + (i : Int)) = (((P ++ X ++ M).length + i : Nat) : Int) := by rw [IntKind.wrap_i64]; omega
      have g0 : (v6 P X M Y Q i)[0 + (P.length + i)]? = some x := by
        rw [hL, List.append_assoc, List.getElem?_append_right (by omega), hu, show 0 + (P.length + i) - (P.length + i) = 0 by omega]; rfl
      have g1 : (v6 P X M Y Q i)[0 + ((P ++ X ++ M).length + i)]? = some y := by
        rw [hL, List.getElem?_append_right (by omega), hv, show 0 + ((P ++ X ++ M).length + i) - ((P ++ X ++ M).length + i) = 0 by omega]; rfl
      have g1' : ((v6 P X M Y Q i).set (0 + (P.length + i)) y).length = (v6 P X M Y Q i).length := List.length_set
      repeat' first | refine zK ?_ | refine zA ?_ | (refine isA ?_; refine zf rfl ?_) | (refine isL ?_; refine zU rfl (by kernel_rfl) rfl rfl ?_) | (refine zb rfl ?_; refine zT rfl (by kernel_rfl) rfl rfl ?_) | refine zD ?_ | refine zB _ rfl (by kernel_rfl) ?_ | refine zV rfl ?_ | refine zW rfl ?_ | refine zC ?_ | with_reducible refine zO ?_ | refine zH ?_ | refine zI ?_ | (with_reducible first | refine zM ?_ | refine zN ?_ | refine zE ?_ | refine zG ?_ | refine zF ?_) | refine zP ?_
      refine ql [21, 23] 24 rfl ?_
      refine ya 0 rfl (by kernel_rfl) rfl (fun _ => rfl) rfl ?_
      refine ya 1 rfl (by kernel_rfl) rfl (fun _ => rfl) rfl ?_
      refine ya 2 rfl (by kernel_rfl) rfl (fun _ => rfl) rfl ?_
      refine ya 3 rfl (by kernel_rfl) rfl (fun _ => rfl) rfl ?_
      refine ya 4 rfl (by kernel_rfl) rfl (fun _ => rfl) rfl ?_
      refine ya 5 rfl (by kernel_rfl) rfl (fun _ => rfl) rfl ?_
      refine ya 6 rfl (by kernel_rfl) rfl (fun _ => rfl) rfl ?_
      refine ya 7 rfl (by kernel_rfl) rfl (fun _ => rfl) rfl ?_
      refine ya 8 rfl (by kernel_rfl) rfl (fun _ => rfl) rfl ?_
      refine ya 9 rfl (by kernel_rfl) rfl (fun _ => rfl) rfl ?_
      refine ya 10 rfl (by kernel_rfl) rfl (fun _ => rfl) rfl ?_
      refine ya 11 rfl (by kernel_rfl) rfl (fun _ => rfl) rfl ?_
      refine xM 12 rfl (by kernel_rfl) rfl (z4 (j := (((P ++ X ++ M).length + i : Nat) : Int)) rfl rfl rfl (Nat.zero_le _) rfl (congrArg I eb) (Int.natCast_nonneg _) (by omega)) rfl ?_
      refine xM 13 rfl (by kernel_rfl) rfl (xF (T := rwT) (i := 0 + ((P ++ X ++ M).length + i)) (z := y) rfl rfl rfl g1) rfl ?_
      refine ya 14 rfl (by kernel_rfl) rfl (fun _ => rfl) rfl ?_
      refine ya 15 rfl (by kernel_rfl) rfl (fun _ => rfl) rfl ?_
      refine ya 16 rfl (by kernel_rfl) rfl (fun _ => rfl) rfl ?_
      refine ya 17 rfl (by kernel_rfl) rfl (fun _ => rfl) rfl ?_
      refine xM 18 rfl (by kernel_rfl) rfl (z4 (j := ((P.length + i : Nat) : Int)) rfl rfl rfl (Nat.zero_le _) rfl (congrArg I ea) (Int.natCast_nonneg _) (by omega)) rfl ?_
      refine xM 19 rfl (by kernel_rfl) rfl (xF (T := rwT) (i := 0 + (P.length + i)) (z := x) rfl rfl rfl g0) rfl ?_
      refine xM 20 rfl (by kernel_rfl) rfl (z4 (j := ((P.length + i : Nat) : Int)) rfl rfl rfl (Nat.zero_le _) rfl (congrArg I ea) (Int.natCast_nonneg _) (by omega)) rfl ?_
      refine tR 21 rfl (by kernel_rfl) rfl rfl (tP (T := rwT) (i := 0 + (P.length + i)) (z := y) rfl rfl rfl rfl rfl (List.getElem?_eq_some_iff.1 g0).1) rfl ?_
      refine xM 22 rfl (by kernel_rfl) rfl (z4 (j := (((P ++ X ++ M).length + i : Nat) : Int)) rfl rfl rfl (Nat.zero_le _) rfl (congrArg I eb) (Int.natCast_nonneg _) (by omega)) rfl ?_
      refine tR 23 rfl (by kernel_rfl) rfl rfl (tP (T := rwT) (i := 0 + ((P ++ X ++ M).length + i)) (z := x) rfl rfl rfl rfl rfl (by rw [List.length_set]; exact (List.getElem?_eq_some_iff.1 g1).1)) rfl ?_
      refine ud (by kernel_rfl) ?_
      repeat' first | refine zK ?_ | refine zA ?_ | refine zL [] ?_ | (refine isA ?_; refine zf rfl ?_) | (refine isL ?_; refine zU rfl (by kernel_rfl) rfl rfl ?_) | (refine zb rfl ?_; refine zT rfl (by kernel_rfl) rfl rfl ?_) | refine zD ?_ | refine zB _ rfl (by kernel_rfl) ?_ | refine zV rfl ?_ | refine zW rfl ?_ | refine zC ?_ | with_reducible refine zO ?_ | refine zH ?_ | refine zI ?_ | (with_reducible first | refine zM ?_ | refine zN ?_ | refine zE ?_ | refine zG ?_ | refine zF ?_) | refine zP ?_
      refine ⟨⟨i + 1, hlt⟩, by simp only; omega, ?_⟩
      exact yy 1 [0] rfl rfl yZ (by decide) (.cons rfl rfl rfl rfl (yh (show rwT.flat (((v6 P X M Y Q i).set (0 + (P.length + i)) y).set (0 + ((P ++ X ++ M).length + i)) x) = rwT.flat (v6 P X M Y Q (i + 1)) by rw [hL, Nat.zero_add, Nat.zero_add, gU hu hv, hL2]) (zJ _ _)) .nil) (by
        repeat' first | exact zg | refine zZ ?_ ?_ | exact zo | exact le_refl rfl | exact zj rfl rfl | exact xI hlt (by omega))
    · have hge : i = n := by have := of_decide_eq_false h; simp only at this; omega
      subst hge
      have e : v6 P X M Y Q i = P ++ Y ++ M ++ X ++ Q := by
        rw [v6, List.take_of_length_le (by omega), List.take_of_length_le (by omega), List.drop_of_length_le (by omega), List.drop_of_length_le (by omega)]; simp
      repeat' first | refine zK ?_ | refine zA ?_ | refine zL [] ?_ | (refine isA ?_; refine zf rfl ?_) | (refine isL ?_; refine zU rfl (by kernel_rfl) rfl rfl ?_) | (refine zb rfl ?_; refine zT rfl (by kernel_rfl) rfl rfl ?_) | exact um 1 [0] yZ (by decide) (.cons rfl rfl rfl rfl (yh (show rwT.flat (v6 P X M Y Q i) = rwT.flat (P ++ Y ++ M ++ X ++ Q) by rw [e]) (zJ _ _)) .nil) | refine zD ?_ | refine zB _ rfl (by kernel_rfl) ?_ | refine zV rfl ?_ | refine zW rfl ?_ | refine zC ?_ | with_reducible refine zO ?_ | refine zH ?_ | refine zI ?_ | (with_reducible first | refine zM ?_ | refine zN ?_ | refine zE ?_ | refine zG ?_ | refine zF ?_) | refine zP ?_
end Go.Proofs.Ytojcojanokhnaaa.Ab
namespace Go.Proofs.Ytojcojanokhnaaa.Ab
open Go.RowKit
theorem qf {ds : List Rw} {L : Nat} {a b n : Int} (P X M Y Q : List Rw) (hd : ds = P ++ X ++ M ++ Y ++ Q) (hL : L = ds.length) (hl : L ≤ 100000000) (ha : a = (P.length : Int)) (hb : b = ((P ++ X ++ M).length : Int)) (hn : n = (X.length : Int)) (hY : Y.length = X.length) :
    zy Go.Proofs.Try.prog 133 [.sl 0 0 L, I a, I b, I n, .fn 64 []] [rwR ds] (.tup []) [rwR (P ++ Y ++ M ++ X ++ Q)] true := by
  subst hd hL ha hb hn
  exact gr P X M Y Q X.length rfl hY hl
structure RotI (m : Nat) (T : List Rw) (p : List Rw × List Rw × List Rw × List Rw) : Prop where
  m : p.1.length + p.2.1.length = m
  t : p.1 ++ p.2.2.1 ++ p.2.1 ++ p.2.2.2 = T
  x : 0 < p.2.1.length
  y : 0 < p.2.2.1.length
theorem RotI.len {m : Nat} {T : List Rw} {p : List Rw × List Rw × List Rw × List Rw} (h : RotI m T p) : (p.1 ++ p.2.1 ++ p.2.2.1 ++ p.2.2.2).length = T.length := by
  rw [← h.t]; simp; omega
theorem jq (P X Y Q : List Rw) (hx : 0 < X.length) (hy : 0 < Y.length) (hl : (P ++ X ++ Y ++ Q).length ≤ 100000000) : zy Go.Proofs.Try.prog 132 [.sl 0 0 (P ++ X ++ Y ++ Q).length, I P.length, I (P ++ X).length, I (P ++ X ++ Y).length, .fn 64 []] [rwR (P ++ X ++ Y ++ Q)] (.tup []) [rwR (P ++ Y ++ X ++ Q)] true := by
  obtain ⟨T, hT⟩ : ∃ T, T = P ++ Y ++ X ++ Q := ⟨_, rfl⟩
  have hTl : (P ++ X ++ Y ++ Q).length = T.length := by rw [hT]; simp; omega
  have l1 : (P ++ X).length = P.length + X.length := by simp
  have l2 : (P ++ X ++ Y).length = P.length + X.length + Y.length := by simp; omega
  have l3 : (P ++ X ++ Y ++ Q).length = P.length + X.length + Y.length + Q.length := by simp; omega
  have I0 : RotI (P ++ X).length T (P, X, Y, Q) := ⟨l1.symm, hT.symm, hx, hy⟩
  rw [← hT]
  generalize hm : (P ++ X).length = m at I0 l1 ⊢
  generalize hL : (P ++ X ++ Y ++ Q).length = L at hl hTl l3 ⊢
  refine zw [] Go.Proofs.Try.func132 rfl rfl ?_
  simp only [Go.Proofs.Try.ntmps132, List.length_cons, List.length_nil, Nat.reduceAdd, Nat.reduceSub, List.replicate_succ, List.replicate_zero, List.cons_append, List.nil_append]
  repeat' first | refine zK ?_ | refine zA ?_ | refine zL [] ?_ | (refine isA ?_; refine zf rfl ?_) | (refine isL ?_; refine zU rfl (by kernel_rfl) rfl rfl ?_) | (refine zb rfl ?_; refine zT rfl (by kernel_rfl) rfl rfl ?_) | refine zD ?_ | refine zB _ rfl (by kernel_rfl) ?_ | refine zV rfl ?_ | refine zW rfl ?_ | refine zC ?_ | with_reducible refine zO ?_ | refine zH ?_ | refine zI ?_ | (with_reducible first | refine zM ?_ | refine zN ?_ | refine zE ?_ | refine zG ?_ | refine zF ?_) | refine zP ?_
  refine z9 (α := { p : List Rw × List Rw × List Rw × List Rw // RotI m T p }) (fun p => ⟨[.sl 0 0 L, .any, I m, .any, .fn 64 [], .any, .any, .any, .any, .any, I p.1.2.1.length, I p.1.2.2.1.length, .any, .any, .any, .any, .any, .any, .any, .any, .any, .any, .any, .any, .any, .any, .any, .any, .any, .any, .any, .any, .any, .any, .any, .any, .any, .any, .any, .any, .any, .any, .any, .any, .any, .any, .any, .any, .any, .any, .any, .any, .any, .any, .any, .any, .any, .any], [rwR (p.1.1 ++ p.1.2.1 ++ p.1.2.2.1 ++ p.1.2.2.2)], 1⟩) (fun p => p.1.2.1.length + p.1.2.2.1.length) ⟨(P, X, Y, Q), I0⟩ ?_ ?_
  · exact yy 1 [0] rfl rfl yZ (by decide) (.cons rfl rfl rfl rfl (zY (zJ _ _)) .nil) (by
      repeat' first | exact zg | refine zZ ?_ ?_ | exact zo | exact le_refl rfl | exact zj rfl rfl | exact z8 (congrArg _ (show (X.length : Int) = IntKind.i64.wrap ((m : Int) - (P.length : Int)) by rw [IntKind.wrap_i64]; omega)) | exact z8 (congrArg _ (show (Y.length : Int) = IntKind.i64.wrap (((P ++ X ++ Y).length : Int) - (m : Int)) by rw [IntKind.wrap_i64]; omega)))
  · rintro ⟨⟨A, C, D, E⟩, J⟩
    have j1 : A.length + C.length = m := J.m
    have j2 : A ++ D ++ C ++ E = T := J.t
    have j3 : 0 < C.length := J.x
    have j4 : 0 < D.length := J.y
    have j5 : (A ++ C ++ D ++ E).length = T.length := J.len
    have j6 : A.length + C.length + D.length + E.length = T.length := by rw [← j5]; simp; omega
    have e1 : IntKind.i64.wrap ((m : Int) - (C.length : Int)) = (A.length : Int) := by rw [IntKind.wrap_i64]; omega
    repeat' first | refine zK ?_ | refine zA ?_ | refine zL [] ?_ | (refine isA ?_; refine zf rfl ?_) | (refine isL ?_; refine zU rfl (by kernel_rfl) rfl rfl ?_) | (refine zb rfl ?_; refine zT rfl (by kernel_rfl) rfl rfl ?_) | refine zD ?_ | refine zB _ rfl (by kernel_rfl) ?_ | refine zV rfl ?_ | refine zW rfl ?_ | refine zC ?_ | with_reducible refine zO ?_ | refine zH ?_ | refine zI ?_ | (with_reducible first | refine zM ?_ | refine zN ?_ | refine zE ?_ | refine zG ?_ | refine zF ?_) | refine zP ?_
    refine zd rfl (fun h => ?_) (fun h => ?_)
    · have hne : C.length ≠ D.length := by intro e; simp [e] at h
      repeat' first | refine zK ?_ | refine zA ?_ | refine zL [] ?_ | (refine isA ?_; refine zf rfl ?_) | (refine isL ?_; refine zU rfl (by kernel_rfl) rfl rfl ?_) | (refine zb rfl ?_; refine zT rfl (by kernel_rfl) rfl rfl ?_) | refine zD ?_ | refine zB _ rfl (by kernel_rfl) ?_ | refine zV rfl ?_ | refine zW rfl ?_ | refine zC ?_ | with_reducible refine zO ?_ | refine zH ?_ | refine zI ?_ | (with_reducible first | refine zM ?_ | refine zN ?_ | refine zE ?_ | refine zG ?_ | refine zF ?_) | refine zP ?_
      refine zd rfl (fun q => ?_) (fun q => ?_)
      · have hgt : D.length < C.length := by have := of_decide_eq_true q; simp only at this; omega
        have t1 : (C.take D.length).length = D.length := by simp; omega
        have t2 : C.take D.length ++ C.drop D.length = C := List.take_append_drop _ _
        have sw := qf (ds := A ++ C ++ D ++ E) (L := L) (a := IntKind.i64.wrap ((m : Int) - (C.length : Int))) (b := (m : Int)) (n := (D.length : Int)) A (C.take D.length) (C.drop D.length) D E (by have q : A ++ (C.take D.length ++ C.drop D.length) ++ D ++ E = A ++ C.take D.length ++ C.drop D.length ++ D ++ E := (by simp only [List.append_assoc]); rw [t2] at q; exact q) (by omega) (by omega) e1 (by rw [List.append_assoc A, t2, List.length_append]; omega) (by omega) (by omega)
        repeat' first | refine zK ?_ | refine zA ?_ | refine zL [] ?_ | (refine isA ?_; refine zf rfl ?_) | (refine isL ?_; refine zU rfl (by kernel_rfl) rfl rfl ?_) | (refine zb rfl ?_; refine zT rfl (by kernel_rfl) rfl rfl ?_) | (refine zu 133 ?_; refine zc rfl (zn (K := []) (Rs' := [_]) [0] (by decide) rfl sw (.cons rfl rfl rfl (zJ _ _) (zJ _ _) .nil) (.cons (.sl rfl) (.cons (.same rfl) (.cons (.same rfl) (.cons (.same rfl) (.cons (.same rfl) .nil))))) (fun q hq => by cases hq) rfl) rfl ?_) | (refine zv 133 rfl ?_; refine zX rfl (by kernel_rfl) rfl (zn (K := []) (Rs' := [_]) [0] (by decide) rfl sw (.cons rfl rfl rfl (zJ _ _) (zJ _ _) .nil) (.cons (.sl rfl) (.cons (.same rfl) (.cons (.same rfl) (.cons (.same rfl) (.cons (.same rfl) .nil))))) (fun q hq => by cases hq) rfl) rfl ?_) | refine zD ?_ | refine zB _ rfl (by kernel_rfl) ?_ | refine zV rfl ?_ | refine zW rfl ?_ | refine zC ?_ | with_reducible refine zO ?_ | refine zH ?_ | refine zI ?_ | (with_reducible first | refine zM ?_ | refine zN ?_ | refine zE ?_ | refine zG ?_ | refine zF ?_) | refine zP ?_
        refine ⟨⟨(A ++ D, C.drop D.length, C.take D.length, E), ⟨by simp; omega, by rw [← j2]; simp only [List.append_assoc]; rw [← List.append_assoc (C.take D.length), t2], by simp; omega, by simp; omega⟩⟩, by simp only [List.length_drop, t1]; omega, ?_⟩
        exact yy 1 [0] rfl rfl yZ (by decide) (.cons rfl rfl rfl rfl (zY (zJ _ _)) .nil) (by
          repeat' first | exact zg | refine zZ ?_ ?_ | exact zo | exact le_refl rfl | exact zj rfl rfl | exact z8 (congrArg _ (show ((C.take D.length).length : Int) = (D.length : Int) by omega)) | exact z8 (congrArg _ (show ((C.drop D.length).length : Int) = IntKind.i64.wrap ((C.length : Int) - (D.length : Int)) by rw [IntKind.wrap_i64, List.length_drop]; omega)))
      · have hlt : C.length < D.length := by have := of_decide_eq_false q; simp only at this; omega
        have t1 : (D.drop (D.length - C.length)).length = C.length := by simp; omega
        have t2 : D.take (D.length - C.length) ++ D.drop (D.length - C.length) = D := List.take_append_drop _ _
        have t3 : (D.take (D.length - C.length)).length = D.length - C.length := by simp
        have sw := qf (ds := A ++ C ++ D ++ E) (L := L) (a := IntKind.i64.wrap ((m : Int) - (C.length : Int))) (b := IntKind.i64.wrap (IntKind.i64.wrap ((m : Int) + (D.length : Int)) - (C.length : Int))) (n := (C.length : Int)) A C (D.take (D.length - C.length)) (D.drop (D.length - C.length)) E (by have q : A ++ C ++ (D.take (D.length - C.length) ++ D.drop (D.length - C.length)) ++ E = A ++ C ++ D.take (D.length - C.length) ++ D.drop (D.length - C.length) ++ E := (by simp only [List.append_assoc]); rw [t2] at q; exact q) (by omega) (by omega) e1 (by
          rw [show IntKind.i64.wrap ((m : Int) + (D.length : Int)) = (m : Int) + D.length by rw [IntKind.wrap_i64]; omega, IntKind.wrap_i64, List.length_append, List.length_append, t3]; omega) rfl t1
        repeat' first | refine zK ?_ | refine zA ?_ | refine zL [] ?_ | (refine isA ?_; refine zf rfl ?_) | (refine isL ?_; refine zU rfl (by kernel_rfl) rfl rfl ?_) | (refine zb rfl ?_; refine zT rfl (by kernel_rfl) rfl rfl ?_) | (refine zu 133 ?_; refine zc rfl (zn (K := []) (Rs' := [_]) [0] (by decide) rfl sw (.cons rfl rfl rfl (zJ _ _) (zJ _ _) .nil) (.cons (.sl rfl) (.cons (.same rfl) (.cons (.same rfl) (.cons (.same rfl) (.cons (.same rfl) .nil))))) (fun q hq => by cases hq) rfl) rfl ?_) | (refine zv 133 rfl ?_; refine zX rfl (by kernel_rfl) rfl (zn (K := []) (Rs' := [_]) [0] (by decide) rfl sw (.cons rfl rfl rfl (zJ _ _) (zJ _ _) .nil) (.cons (.sl rfl) (.cons (.same rfl) (.cons (.same rfl) (.cons (.same rfl) (.cons (.same rfl) .nil))))) (fun q hq => by cases hq) rfl) rfl ?_) | refine zD ?_ | refine zB _ rfl (by kernel_rfl) ?_ | refine zV rfl ?_ | refine zW rfl ?_ | refine zC ?_ | with_reducible refine zO ?_ | refine zH ?_ | refine zI ?_ | (with_reducible first | refine zM ?_ | refine zN ?_ | refine zE ?_ | refine zG ?_ | refine zF ?_) | refine zP ?_
        refine ⟨⟨(A, D.drop (D.length - C.length), D.take (D.length - C.length), C ++ E), ⟨by simp only; omega, by rw [← j2]; simp only [List.append_assoc]; rw [← List.append_assoc (D.take (D.length - C.length)), t2], by simp only; omega, by simp only; omega⟩⟩, by simp only [t1, t3]; omega, ?_⟩
        exact yy 1 [0] rfl rfl yZ (by decide) (.cons rfl rfl rfl rfl (yh (congrArg rwT.flat (by simp)) (zJ _ _)) .nil) (by
          repeat' first | exact zg | refine zZ ?_ ?_ | exact zo | exact le_refl rfl | exact zj rfl rfl | exact z8 (congrArg _ (show ((D.drop (D.length - C.length)).length : Int) = (C.length : Int) by omega)) | exact z8 (congrArg _ (show ((D.take (D.length - C.length)).length : Int) = IntKind.i64.wrap ((D.length : Int) - (C.length : Int)) by rw [IntKind.wrap_i64, t3]; omega)))
    · have heq : C.length = D.length := by have : (C.length : Int) = D.length := (by simpa using h); omega
      have sw := qf (ds := A ++ C ++ D ++ E) (L := L) (a := IntKind.i64.wrap ((m : Int) - (C.length : Int))) (b := (m : Int)) (n := (C.length : Int)) A C [] D E (by simp) (by omega) (by omega) e1 (by simp; omega) rfl heq.symm
      repeat' first | refine zK ?_ | refine zA ?_ | refine zL [] ?_ | (refine isA ?_; refine zf rfl ?_) | (refine isL ?_; refine zU rfl (by kernel_rfl) rfl rfl ?_) | (refine zb rfl ?_; refine zT rfl (by kernel_rfl) rfl rfl ?_) | (refine zu 133 ?_; refine zc rfl (zn (K := []) (Rs' := [_]) [0] (by decide) rfl sw (.cons rfl rfl rfl (zJ _ _) (zJ _ _) .nil) (.cons (.sl rfl) (.cons (.same rfl) (.cons (.same rfl) (.cons (.same rfl) (.cons (.same rfl) .nil))))) (fun q hq => by cases hq) rfl) rfl ?_) | (refine zv 133 rfl ?_; refine zX rfl (by kernel_rfl) rfl (zn (K := []) (Rs' := [_]) [0] (by decide) rfl sw (.cons rfl rfl rfl (zJ _ _) (zJ _ _) .nil) (.cons (.sl rfl) (.cons (.same rfl) (.cons (.same rfl) (.cons (.same rfl) (.cons (.same rfl) .nil))))) (fun q hq => by cases hq) rfl) rfl ?_) | exact um 1 [0] yZ (by decide) (.cons rfl rfl rfl rfl (yh (congrArg rwT.flat (by rw [← j2]; simp)) (zJ _ _)) .nil) | refine zD ?_ | refine zB _ rfl (by kernel_rfl) ?_ | refine zV rfl ?_ | refine zW rfl ?_ | refine zC ?_ | with_reducible refine zO ?_ | refine zH ?_ | refine zI ?_ | (with_reducible first | refine zM ?_ | refine zN ?_ | refine zE ?_ | refine zG ?_ | refine zF ?_) | refine zP ?_
end Go.Proofs.Ytojcojanokhnaaa.Ab
namespace Go.Proofs.Ytojcojanokhnaaa.Ab
open Go.RowKit
theorem so {xs : List Rw} (h : Srt xs) (u : Nat) : ∀ x ∈ xs.take u, ∀ y ∈ xs.drop u, leW x y := by
  have h' : Srt (xs.take u ++ xs.drop u) := by rw [List.take_append_drop]; exact h
  exact (List.pairwise_append.1 h').2.2
theorem qe {A B : List Rw} {u v : Nat} (hA : Srt A) (hB : Srt B) (hu : u ≤ A.length) (h : ∀ x y, 0 < u → A[u - 1]? = some x → B[v]? = some y → leW x y) : ∀ x ∈ A.take u, ∀ y ∈ B.drop v, leW x y := fun x hx y hy => by
  obtain ⟨i, hi⟩ := List.getElem?_of_mem hx
  obtain ⟨j, hj⟩ := List.getElem?_of_mem hy
  have hlt : i < u := by
    have := (List.getElem?_eq_some_iff.1 hi).1
    simp at this
    omega
  rw [List.getElem?_take_of_lt hlt] at hi
  rw [List.getElem?_drop] at hj
  have hvl := (List.getElem?_eq_some_iff.1 hj).1
  obtain ⟨x', hx'⟩ : ∃ z, A[u - 1]? = some z := ⟨_, List.getElem?_eq_getElem (by omega)⟩
  obtain ⟨y', hy'⟩ : ∃ z, B[v]? = some z := ⟨_, List.getElem?_eq_getElem (by omega)⟩
  exact xH (vh hA (show i ≤ u - 1 by omega) hi hx') (xH (h x' y' (by omega) hx' hy') (vh hB (Nat.le_add_right v j) hy' hj))
theorem nV {A B : List Rw} {u v : Nat} (hA : Srt A) (hB : Srt B) (hu : u ≤ A.length) (hv : v ≤ B.length) (h1 : ∀ x y, 0 < u → A[u - 1]? = some x → B[v]? = some y → leW x y) (h2 : ∀ y x, 0 < v → B[v - 1]? = some y → A[u]? = some x → leW y x) :
    yJ (A.take u ++ B.take v) ++ yJ (A.drop u ++ B.drop v) = yJ (A ++ B) := by
  refine wb ?_ ?_
  · refine List.pairwise_append.2 ⟨xE _, xE _, fun x hx y hy => ?_⟩
    have hx' := (yY _).mem_iff.1 hx
    have hy' := (yY _).mem_iff.1 hy
    rcases List.mem_append.1 hx' with hx' | hx' <;> rcases List.mem_append.1 hy' with hy' | hy'
    · exact so hA u x hx' y hy'
    · exact qe hA hB hu h1 x hx' y hy'
    · exact qe hB hA hv h2 x hx' y hy'
    · exact so hB v x hx' y hy'
  · refine ((yY _).append (yY _)).trans ?_
    have e : (A ++ B).Perm ((A.take u ++ A.drop u) ++ (B.take v ++ B.drop v)) := by rw [List.take_append_drop, List.take_append_drop]
    refine List.Perm.trans ?_ e.symm
    rw [List.append_assoc, List.append_assoc]
    refine List.Perm.append_left _ ?_
    rw [← List.append_assoc, ← List.append_assoc]
    exact List.Perm.append_right _ List.perm_append_comm
end Go.Proofs.Ytojcojanokhnaaa.Ab
namespace Go.Proofs.Ytojcojanokhnaaa.Ab
open Go.RowKit
inductive Blk (s : Nat) : List Rw → Prop where
  | last {X : List Rw} (hl : X.length ≤ s) (h : Srt X) : Blk s X
  | cons {X Y : List Rw} (hl : X.length = s) (h : Srt X) (t : Blk s Y) : Blk s (X ++ Y)
def nN (s : Nat) (U : List Rw) : Prop := ∀ Z, Blk s Z → Blk s (U ++ Z)
theorem pQ {s : Nat} : nN s [] := fun Z h => h
theorem s7 {s : Nat} {U X : List Rw} (hU : nN s U) (hl : X.length = s) (h : Srt X) : nN s (U ++ X) := fun Z hZ => by
  rw [List.append_assoc]; exact hU _ (.cons hl h hZ)
theorem tD {s : Nat} {U X : List Rw} (hU : nN s U) (hl : X.length ≤ s) (h : Srt X) : Blk s (U ++ X) := hU _ (.last hl h)
theorem tk {s : Nat} {V : List Rw} (h : Blk s V) (hl : V.length ≤ s) : Srt V := by
  cases h with
  | last _ h => exact h
  | @cons X Y hX h t =>
    have : Y = [] := List.eq_nil_of_length_eq_zero (by rw [List.length_append] at hl; omega)
    subst this
    rw [List.append_nil]
    exact h
theorem qk {s : Nat} {V : List Rw} (h : Blk s V) (hl : s < V.length) : ∃ X Y, V = X ++ Y ∧ X.length = s ∧ Srt X ∧ Blk s Y := by
  cases h with
  | last q h => omega
  | @cons X Y hX h t => exact ⟨X, Y, rfl, hX, h, t⟩
theorem fD {s : Nat} {V : List Rw} (hs : 0 < s) (h : Blk s V) (hl : 2 * s ≤ V.length) : ∃ X Y Z, V = X ++ Y ++ Z ∧ X.length = s ∧ Y.length = s ∧ Srt X ∧ Srt Y ∧ Blk s Z := by
  obtain ⟨X, W, rfl, hX, sX, hW⟩ := qk h (by omega)
  rw [List.length_append] at hl
  rcases Nat.lt_or_ge s W.length with hlt | hge
  · obtain ⟨Y, Z, rfl, hY, sY, hZ⟩ := qk hW hlt
    exact ⟨X, Y, Z, by rw [List.append_assoc], hX, hY, sX, sY, hZ⟩
  · exact ⟨X, W, [], by simp, hX, by omega, sX, tk hW hge, .last (Nat.zero_le _) List.Pairwise.nil⟩
theorem gF {s : Nat} {V : List Rw} (h : Blk s V) (hl : s < V.length) (h2 : V.length < 2 * s) : ∃ X Y, V = X ++ Y ∧ X.length = s ∧ Srt X ∧ Srt Y ∧ 0 < Y.length := by
  obtain ⟨X, Y, rfl, hX, sX, hY⟩ := qk h hl
  rw [List.length_append] at hl h2
  exact ⟨X, Y, rfl, hX, sX, tk hY (by omega), by omega⟩
theorem nb {xs : List Rw} (h : Srt xs) : yJ xs = xs := (wb h (.refl _)).symm
end Go.Proofs.Ytojcojanokhnaaa.Ab
namespace Go.Proofs.Ytojcojanokhnaaa.Ab
open Go.RowKit
structure CutI (A B : List Rw) (w : Nat) (p : Nat × Nat) : Prop where
  lo : w - B.length ≤ p.1
  le : p.1 ≤ p.2
  hi : p.2 ≤ min A.length w
  hlo : ∀ x y, w - B.length < p.1 → A[p.1 - 1]? = some x → B[w - p.1]? = some y → leW x y
  hhi : ∀ y x, p.2 < min A.length w → B[w - 1 - p.2]? = some y → A[p.2]? = some x → leW y x
theorem cut0 {A B : List Rw} {w : Nat} (hw : w = (A.length + B.length) / 2) : CutI A B w (w - B.length, min A.length w) :=
  ⟨Nat.le_refl _, by simp only; omega, Nat.le_refl _, fun _ _ h => absurd h (Nat.lt_irrefl _), fun _ _ h => absurd h (Nat.lt_irrefl _)⟩
theorem gp {A B : List Rw} {w u : Nat} (hw : w = (A.length + B.length) / 2) (hA : Srt A) (hB : Srt B) (h : CutI A B w (u, u)) :
    u ≤ A.length ∧ u ≤ w ∧ w - u ≤ B.length ∧ yJ (A.take u ++ B.take (w - u)) ++ yJ (A.drop u ++ B.drop (w - u)) = yJ (A ++ B) := by
  obtain ⟨h1, h2, h3, h4, h5⟩ := h
  simp only at h1 h2 h3 h4 h5
  refine ⟨by omega, by omega, by omega, nV hA hB (by omega) (by omega) (fun x y h0 hx hy => ?_) (fun y x h0 hy hx => ?_)⟩
  · refine h4 x y ?_ hx hy
    have := (List.getElem?_eq_some_iff.1 hy).1
    omega
  · refine h5 y x ?_ ?_ hx
    · have := (List.getElem?_eq_some_iff.1 hx).1
      omega
    · rw [show w - 1 - u = w - u - 1 by omega]; exact hy
end Go.Proofs.Ytojcojanokhnaaa.Ab
namespace Go.Proofs.Ytojcojanokhnaaa.Ab
open Go.RowKit
theorem lt {v : Int} (h0 : 0 ≤ v) : vU .u64 v 1 = v / 2 := by
  unfold vU
  show v.fdiv 2 = v / 2
  exact Int.fdiv_eq_ediv_of_nonneg v (by omega)
theorem uk {i j : Nat} (h : i + j ≤ 1000000000000) : IntKind.i64.wrap (vU .u64 (IntKind.u64.wrap (IntKind.i64.wrap ((i : Int) + (j : Int)))) 1) = (((i + j) / 2 : Nat) : Int) := by
  have e1 : IntKind.i64.wrap ((i : Int) + (j : Int)) = ((i + j : Nat) : Int) := by rw [IntKind.wrap_i64]; omega
  have e2 : IntKind.u64.wrap (((i + j : Nat) : Int)) = ((i + j : Nat) : Int) := by
    unfold IntKind.wrap
    simp [IntKind.bits, IntKind.signed]
    omega
  rw [e1, e2, lt (by omega), IntKind.wrap_i64]
  omega
end Go.Proofs.Ytojcojanokhnaaa.Ab
namespace Go.Proofs.Ytojcojanokhnaaa.Ab
open Go.RowKit
theorem sq {x : Rw} {B : List Rw} {u : Nat} (hB : Srt B) (hu : u ≤ B.length) (h1 : ∀ z, 0 < u → B[u - 1]? = some z → leW z x) (h2 : ∀ z, B[u]? = some z → leW x z) : B.take u ++ x :: B.drop u = yJ ([x] ++ B) := by
  have h := nV (A := [x]) (B := B) (u := 0) (v := u) (List.pairwise_singleton _ _) hB (Nat.zero_le _) hu (fun _ _ h => absurd h (Nat.lt_irrefl 0)) (fun y z h0 hy hz => by
    simp at hz
    subst hz
    exact h1 y h0 hy)
  refine wb ?_ ?_
  · have hs : Srt (B.take u ++ B.drop u) := by rw [List.take_append_drop]; exact hB
    obtain ⟨q1, q2, q3⟩ := List.pairwise_append.1 hs
    have hlo := qe (A := B) (B := [x]) (u := u) (v := 0) hB (List.pairwise_singleton _ _) hu (fun z y h0 hz hy => by simp at hy; subst hy; exact h1 z h0 hz)
    have hhi := qe (A := [x]) (B := B) (u := 1) (v := u) (List.pairwise_singleton _ _) hB (by simp) (fun z y _ hz hy => by simp at hz; subst hz; exact h2 y hy)
    refine List.pairwise_append.2 ⟨q1, List.pairwise_cons.2 ⟨fun y hy => hhi x (by simp) y hy, q2⟩, fun a ha c hc => ?_⟩
    rcases List.mem_cons.1 hc with rfl | hc
    · exact hlo a ha _ (by simp)
    · exact q3 a ha c hc
  · exact List.perm_middle.trans (by rw [List.take_append_drop]; exact .refl _)
theorem ll {x : Rw} {A : List Rw} {u : Nat} (hA : Srt A) (hu : u ≤ A.length) (h1 : ∀ z, 0 < u → A[u - 1]? = some z → leW z x) (h2 : ∀ z, A[u]? = some z → leW x z) : A.take u ++ x :: A.drop u = yJ (A ++ [x]) := by
  rw [sq hA hu h1 h2]
  exact wb (xE _) ((yY _).trans List.perm_append_comm)
theorem kT {l : List V} {H : List Reg} {K : List Reg} (k : Nat) (ψ : List Nat) (hfix : ∀ i, i < k → ψ[i]? = some i) (hnd : ψ.Nodup) (hH : HLes ψ H ψ K) : (Exit.ret = .ret ∨ Exit.ret = .normal) ∧ Out true (.tup []) K (vk ⟨l, H, k⟩ []) ⟨l, H, k⟩ :=
  ⟨Or.inl rfl, vm (S := ⟨l, H, k⟩) ψ hfix (wX hnd hH) (nD zg) (Or.inl rfl)⟩
theorem gV {U W : List Rw} {x y : Rw} {u : Nat} (hu : U.length = u) : ((U ++ x :: y :: W).set u y).set (u + 1) x = U ++ y :: x :: W := by
  subst hu
  have h1 : (U ++ x :: y :: W).set U.length y = U ++ y :: y :: W := by rw [List.set_append_right _ _ (Nat.le_refl _), Nat.sub_self]; rfl
  rw [h1, List.set_append_right _ _ (by omega), show U.length + 1 - U.length = 1 by omega]
  rfl
def upL (P B Q : List Rw) (x : Rw) (t : Nat) : List Rw := P ++ B.take t ++ x :: (B.drop t ++ Q)
theorem eY (P B Q : List Rw) (x : Rw) (hB : Srt B) (h0 : 0 < B.length) (hl : (P ++ [x] ++ B ++ Q).length ≤ 100000000) : zy Go.Proofs.Try.prog 131 [.sl 0 0 (P ++ [x] ++ B ++ Q).length, I P.length, I (P ++ [x]).length, I (P ++ [x] ++ B).length, .fn 64 []] [rwR (P ++ [x] ++ B ++ Q)] (.tup []) [rwR (P ++ yJ ([x] ++ B) ++ Q)] true := by
  have l1 : (P ++ [x]).length = P.length + 1 := by simp
  have l2 : (P ++ [x] ++ B).length = P.length + 1 + B.length := by simp; omega
  have l3 : (P ++ [x] ++ B ++ Q).length = P.length + 1 + B.length + Q.length := by simp; omega
  generalize hm : (P ++ [x]).length = m at l1 ⊢
  generalize hb : (P ++ [x] ++ B).length = b at l2 ⊢
  generalize hL : (P ++ [x] ++ B ++ Q).length = L at hl l3 ⊢
  refine zw [] Go.Proofs.Try.func131 rfl rfl ?_
  simp only [Go.Proofs.Try.ntmps131, List.length_cons, List.length_nil, Nat.reduceAdd, Nat.reduceSub, List.replicate_succ, List.replicate_zero, List.cons_append, List.nil_append]
  repeat' first | refine zK ?_ | refine zA ?_ | refine zL [] ?_ | (refine isA ?_; refine zf rfl ?_) | (refine isL ?_; refine zU rfl (by kernel_rfl) rfl rfl ?_) | (refine zb rfl ?_; refine zT rfl (by kernel_rfl) rfl rfl ?_) | refine zD ?_ | refine zB _ rfl (by kernel_rfl) ?_ | refine zV rfl ?_ | refine zW rfl ?_ | refine zC ?_ | with_reducible refine zO ?_ | refine zH ?_ | refine zI ?_ | (with_reducible first | refine zM ?_ | refine zN ?_ | refine zE ?_ | refine zG ?_ | refine zF ?_) | refine zP ?_
  refine zd rfl (fun _ => ?_) (fun h => absurd (of_decide_eq_false h) (by rw [IntKind.wrap_i64]; omega))
  repeat' first | refine zK ?_ | refine zA ?_ | refine zL [] ?_ | (refine isA ?_; refine zf rfl ?_) | (refine isL ?_; refine zU rfl (by kernel_rfl) rfl rfl ?_) | (refine zb rfl ?_; refine zT rfl (by kernel_rfl) rfl rfl ?_) | refine zD ?_ | refine zB _ rfl (by kernel_rfl) ?_ | refine zV rfl ?_ | refine zW rfl ?_ | refine zC ?_ | with_reducible refine zO ?_ | refine zH ?_ | refine zI ?_ | (with_reducible first | refine zM ?_ | refine zN ?_ | refine zE ?_ | refine zG ?_ | refine zF ?_) | refine zP ?_
  refine z9 (α := { p : Nat × Nat // p.1 ≤ p.2 ∧ p.2 ≤ B.length ∧ (∀ z, 0 < p.1 → B[p.1 - 1]? = some z → leW z x) ∧ (∀ z, B[p.2]? = some z → leW x z) }) (fun p => ⟨((.sl 0 0 L) :: (I P.length) :: (I m) :: (I b) :: (.fn 64 []) :: .any :: .any :: .any :: .any :: .any :: (I ((m + p.1.1 : Nat) : Int)) :: (I ((m + p.1.2 : Nat) : Int)) :: .any :: .any :: .any :: .any :: .any :: .any :: .any :: .any :: .any :: .any :: .any :: .any :: .any :: .any :: .any :: .any :: .any :: .any :: .any :: .any :: .any :: .any :: .any :: .any :: .any :: .any :: .any :: .any :: .any :: .any :: .any :: .any :: .any :: .any :: .any :: .any :: .any :: .any :: .any :: .any :: .any :: .any :: .any :: .any :: .any :: .any :: .any :: .any :: .any :: .any :: .any :: .any :: .any :: .any :: .any :: .any :: .any :: .any :: .any :: .any :: .any :: .any :: .any :: .any :: .any :: .any :: .any :: .any :: .any :: .any :: .any :: .any :: .any :: .any :: .any :: .any :: .any :: .any :: .any :: .any :: .any :: .any :: .any :: .any :: .any :: .any :: .any :: .any :: .any :: .any :: .any :: .any :: .any :: .any :: .any :: .any :: .any :: .any :: .any :: .any :: .any :: .any :: .any :: .any :: .any :: .any :: .any :: .any :: .any :: .any :: .any :: .any :: .any :: .any :: .any :: .any :: .any :: .any :: .any :: .any :: .any :: .any :: .any :: .any :: .any :: .any :: .any :: .any :: .any :: .any :: .any :: .any :: .any :: .any :: .any :: .any :: .any :: .any :: .any :: .any :: .any :: .any :: .any :: .any :: .any :: .any :: .any :: .any :: .any :: .any :: .any :: .any :: .any :: .any :: .any :: .any :: .any :: .any :: .any :: .any :: .any :: .any :: .any :: .any :: .any :: .any :: .any :: .any :: .any :: .any :: .any :: .any :: .any :: .any :: .any :: .any :: .any :: .any :: .any :: .any :: .any :: .any :: .any :: .any :: .any :: .any :: .any :: .any :: .any :: .any :: .any :: .any :: .any :: .any :: .any :: .any :: .any :: .any :: .any :: .any :: .any :: .any :: .any :: .any :: .any :: .any :: .any :: .any :: []), [rwR (P ++ [x] ++ B ++ Q)], 1⟩) (fun p => p.1.2 - p.1.1) ⟨(0, B.length), Nat.zero_le _, Nat.le_refl _, fun _ h => absurd h (Nat.lt_irrefl 0), fun z hz => absurd (List.getElem?_eq_some_iff.1 hz).1 (Nat.lt_irrefl _)⟩ ?_ ?_
  · exact yy 1 [0] rfl rfl yZ (by decide) (.cons rfl rfl rfl rfl (zY (zJ _ _)) .nil) (by
      repeat' first | exact zg | refine zZ ?_ ?_ | exact zo | exact le_refl rfl | exact zj rfl rfl | exact z8 (congrArg _ (show ((m + B.length : Nat) : Int) = (b : Int) by omega)))
  · rintro ⟨⟨i, j⟩, hij, hj, hlo, hhi⟩
    simp only at hij hj hlo hhi
    repeat' first | refine zK ?_ | refine zA ?_ | refine zL [] ?_ | (refine isA ?_; refine zf rfl ?_) | (refine isL ?_; refine zU rfl (by kernel_rfl) rfl rfl ?_) | (refine zb rfl ?_; refine zT rfl (by kernel_rfl) rfl rfl ?_) | refine zD ?_ | refine zB _ rfl (by kernel_rfl) ?_ | refine zV rfl ?_ | refine zW rfl ?_ | refine zC ?_ | with_reducible refine zO ?_ | refine zH ?_ | refine zI ?_ | (with_reducible first | refine zM ?_ | refine zN ?_ | refine zE ?_ | refine zG ?_ | refine zF ?_) | refine zP ?_
    refine zd rfl (fun h => ?_) (fun h => ?_)
    · have hlt : i < j := by have := of_decide_eq_true h; simp only at this; omega
      obtain ⟨k, hk⟩ : ∃ k, k = (i + j) / 2 := ⟨_, rfl⟩
      have k1 : i ≤ k ∧ k < j := by omega
      have hv : IntKind.i64.wrap (vU .u64 (IntKind.u64.wrap (IntKind.i64.wrap (((m + i : Nat) : Int) + ((m + j : Nat) : Int)))) 1) = ((m + k : Nat) : Int) := by
        rw [uk (by omega)]; omega
      obtain ⟨y, hy⟩ : ∃ z, B[k]? = some z := ⟨_, List.getElem?_eq_getElem (by omega)⟩
      have gy : (P ++ [x] ++ B ++ Q)[0 + (m + k)]? = some y := by
        rw [List.getElem?_append_left (by omega), List.getElem?_append_right (by omega), hm, show 0 + (m + k) - m = k by omega]; exact hy
      have gx : (P ++ [x] ++ B ++ Q)[0 + P.length]? = some x := by
        rw [Nat.zero_add, List.append_assoc, List.append_assoc, List.getElem?_append_right (Nat.le_refl _), Nat.sub_self]; rfl
      repeat' first | refine zK ?_ | refine zA ?_ | refine zL [] ?_ | (refine isA ?_; refine zf rfl ?_) | (refine isL ?_; refine zU rfl (by kernel_rfl) rfl rfl ?_) | (refine zb rfl ?_; refine zT rfl (by kernel_rfl) rfl rfl ?_) | refine zc rfl (xc (n := 1) rfl rfl rfl) rfl ?_ | refine zX rfl (by kernel_rfl) rfl (xc (n := 1) rfl rfl rfl) rfl ?_ | (refine yG (x := .tmp 41) ?_; refine zc rfl (z4 (j := ((m + k : Nat) : Int)) rfl rfl rfl (Nat.zero_le _) rfl (congrArg I hv) (Int.natCast_nonneg _) (by omega)) rfl ?_) | (refine yF (x := .tmp 41) rfl ?_; refine zX rfl (by kernel_rfl) rfl (z4 (j := ((m + k : Nat) : Int)) rfl rfl rfl (Nat.zero_le _) rfl (congrArg I hv) (Int.natCast_nonneg _) (by omega)) rfl ?_) | (refine yG (x := .tmp 45) ?_; refine zc rfl (z4 (j := (P.length : Int)) rfl rfl rfl (Nat.zero_le _) rfl rfl (Int.natCast_nonneg _) (by omega)) rfl ?_) | (refine yF (x := .tmp 45) rfl ?_; refine zX rfl (by kernel_rfl) rfl (z4 (j := (P.length : Int)) rfl rfl rfl (Nat.zero_le _) rfl rfl (Int.natCast_nonneg _) (by omega)) rfl ?_) | (refine wT (x := .tmp 43) ?_; refine zc rfl (xF (T := rwT) (i := 0 + (m + k)) (z := y) rfl rfl rfl gy) rfl ?_) | (refine wW (x := .tmp 43) rfl ?_; refine zX rfl (by kernel_rfl) rfl (xF (T := rwT) (i := 0 + (m + k)) (z := y) rfl rfl rfl gy) rfl ?_) | (refine wT (x := .tmp 47) ?_; refine zc rfl (xF (T := rwT) (i := 0 + P.length) (z := x) rfl rfl rfl gx) rfl ?_) | (refine wW (x := .tmp 47) rfl ?_; refine zX rfl (by kernel_rfl) rfl (xF (T := rwT) (i := 0 + P.length) (z := x) rfl rfl rfl gx) rfl ?_) | refine zc rfl (wO rfl rfl (xb y x) (.cons (.same rfl) (.cons (.same rfl) .nil)) rfl) rfl ?_ | refine zX rfl (by kernel_rfl) rfl (wO rfl rfl (xb y x) (.cons (.same rfl) (.cons (.same rfl) .nil)) rfl) rfl ?_ | refine zD ?_ | refine zB _ rfl (by kernel_rfl) ?_ | refine zV rfl ?_ | refine zW rfl ?_ | refine zC ?_ | with_reducible refine zO ?_ | refine zH ?_ | refine zI ?_ | (with_reducible first | refine zM ?_ | refine zN ?_ | refine zE ?_ | refine zG ?_ | refine zF ?_) | refine zP ?_
      refine zd rfl (fun p => ?_) (fun p => ?_)
      · have q := wd (xN.1 (of_decide_eq_true p))
        repeat' first | refine zK ?_ | refine zA ?_ | refine zL [] ?_ | (refine isA ?_; refine zf rfl ?_) | (refine isL ?_; refine zU rfl (by kernel_rfl) rfl rfl ?_) | (refine zb rfl ?_; refine zT rfl (by kernel_rfl) rfl rfl ?_) | refine zD ?_ | refine zB _ rfl (by kernel_rfl) ?_ | refine zV rfl ?_ | refine zW rfl ?_ | refine zC ?_ | with_reducible refine zO ?_ | refine zH ?_ | refine zI ?_ | (with_reducible first | refine zM ?_ | refine zN ?_ | refine zE ?_ | refine zG ?_ | refine zF ?_) | refine zP ?_
        refine ⟨⟨(k + 1, j), by simp only; omega, hj, fun z _ hz => by simp only [Nat.add_sub_cancel] at hz; rw [hy] at hz; cases hz; exact q, hhi⟩, by simp only; omega, ?_⟩
        exact yy 1 [0] rfl rfl yZ (by decide) (.cons rfl rfl rfl rfl (zY (zJ _ _)) .nil) (by
          repeat' first | exact zg | refine zZ ?_ ?_ | exact zo | exact le_refl rfl | exact zj rfl rfl | exact z8 (congrArg _ (show ((m + (k + 1) : Nat) : Int) = IntKind.i64.wrap (IntKind.i64.wrap (vU .u64 (IntKind.u64.wrap (IntKind.i64.wrap (((m + i : Nat) : Int) + ((m + j : Nat) : Int)))) 1) + 1) by rw [hv, IntKind.wrap_i64]; omega)))
      · have q : leW x y := Classical.byContradiction fun hn => absurd (xN.2 hn) (of_decide_eq_false p)
        repeat' first | refine zK ?_ | refine zA ?_ | refine zL [] ?_ | (refine isA ?_; refine zf rfl ?_) | (refine isL ?_; refine zU rfl (by kernel_rfl) rfl rfl ?_) | (refine zb rfl ?_; refine zT rfl (by kernel_rfl) rfl rfl ?_) | refine zD ?_ | refine zB _ rfl (by kernel_rfl) ?_ | refine zV rfl ?_ | refine zW rfl ?_ | refine zC ?_ | with_reducible refine zO ?_ | refine zH ?_ | refine zI ?_ | (with_reducible first | refine zM ?_ | refine zN ?_ | refine zE ?_ | refine zG ?_ | refine zF ?_) | refine zP ?_
        refine ⟨⟨(i, k), k1.1, by simp only; omega, hlo, fun z hz => by rw [hy] at hz; cases hz; exact q⟩, by simp only; omega, ?_⟩
        exact yy 1 [0] rfl rfl yZ (by decide) (.cons rfl rfl rfl rfl (zY (zJ _ _)) .nil) (by
          repeat' first | exact zg | refine zZ ?_ ?_ | exact zo | exact le_refl rfl | exact zj rfl rfl | exact z8 (congrArg _ hv.symm))
    · have e : i = j := by have := of_decide_eq_false h; simp only at this; omega
      subst e
      have hfin := sq hB hj hlo hhi
      have e1 : IntKind.i64.wrap (((m + i : Nat) : Int) - 1) = ((P.length + i : Nat) : Int) := by rw [IntKind.wrap_i64]; omega
      repeat' first | refine zK ?_ | refine zA ?_ | refine zL [] ?_ | (refine isA ?_; refine zf rfl ?_) | (refine isL ?_; refine zU rfl (by kernel_rfl) rfl rfl ?_) | (refine zb rfl ?_; refine zT rfl (by kernel_rfl) rfl rfl ?_) | refine zD ?_ | refine zB _ rfl (by kernel_rfl) ?_ | refine zV rfl ?_ | refine zW rfl ?_ | refine zC ?_ | with_reducible refine zO ?_ | refine zH ?_ | refine zI ?_ | (with_reducible first | refine zM ?_ | refine zN ?_ | refine zE ?_ | refine zG ?_ | refine zF ?_) | refine zP ?_
      refine z9 (α := { t : Nat // t ≤ i }) (fun t => ⟨((.sl 0 0 L) :: .any :: .any :: .any :: .any :: .any :: .any :: .any :: .any :: .any :: (I ((m + i : Nat) : Int)) :: .any :: .any :: (I ((P.length + t.1 : Nat) : Int)) :: .any :: .any :: .any :: .any :: .any :: .any :: .any :: .any :: .any :: .any :: .any :: .any :: .any :: .any :: .any :: .any :: .any :: .any :: .any :: .any :: .any :: .any :: .any :: .any :: .any :: .any :: .any :: .any :: .any :: .any :: .any :: .any :: .any :: .any :: .any :: .any :: .any :: .any :: .any :: .any :: .any :: .any :: .any :: .any :: .any :: .any :: .any :: .any :: .any :: .any :: .any :: .any :: .any :: .any :: .any :: .any :: .any :: .any :: .any :: .any :: .any :: .any :: .any :: .any :: .any :: .any :: .any :: .any :: .any :: .any :: .any :: .any :: .any :: .any :: .any :: .any :: .any :: .any :: .any :: .any :: .any :: .any :: .any :: .any :: .any :: .any :: .any :: .any :: .any :: .any :: .any :: .any :: .any :: .any :: .any :: .any :: .any :: .any :: .any :: .any :: .any :: .any :: .any :: .any :: .any :: .any :: .any :: .any :: .any :: .any :: .any :: .any :: .any :: .any :: .any :: .any :: .any :: .any :: .any :: .any :: .any :: .any :: .any :: .any :: .any :: .any :: .any :: .any :: .any :: .any :: .any :: .any :: .any :: .any :: .any :: .any :: .any :: .any :: .any :: .any :: .any :: .any :: .any :: .any :: .any :: .any :: .any :: .any :: .any :: .any :: .any :: .any :: .any :: .any :: .any :: .any :: .any :: .any :: .any :: .any :: .any :: .any :: .any :: .any :: .any :: .any :: .any :: .any :: .any :: .any :: .any :: .any :: .any :: .any :: .any :: .any :: .any :: .any :: .any :: .any :: .any :: .any :: .any :: .any :: .any :: .any :: .any :: .any :: .any :: .any :: .any :: .any :: .any :: .any :: .any :: .any :: .any :: .any :: .any :: .any :: .any :: .any :: .any :: .any :: .any :: .any :: []), [rwR (upL P B Q x t.1)], 1⟩) (fun t => i - t.1) ⟨0, Nat.zero_le _⟩ ?_ ?_
      · exact yy 1 [0] rfl rfl yZ (by decide) (.cons rfl rfl rfl rfl (yh (congrArg rwT.flat (by simp [upL])) (zJ _ _)) .nil) (by repeat' first | exact zg | refine zZ ?_ ?_ | exact zo | exact le_refl rfl | exact zj rfl rfl | exact zt rfl)
      · rintro ⟨t, ht⟩
        repeat' first | refine zK ?_ | refine zA ?_ | refine zL [] ?_ | (refine isA ?_; refine zf rfl ?_) | (refine isL ?_; refine zU rfl (by kernel_rfl) rfl rfl ?_) | (refine zb rfl ?_; refine zT rfl (by kernel_rfl) rfl rfl ?_) | refine zD ?_ | refine zB _ rfl (by kernel_rfl) ?_ | refine zV rfl ?_ | refine zW rfl ?_ | refine zC ?_ | with_reducible refine zO ?_ | refine zH ?_ | refine zI ?_ | (with_reducible first | refine zM ?_ | refine zN ?_ | refine zE ?_ | refine zG ?_ | refine zF ?_) | refine zP ?_
        refine zd rfl (fun q => ?_) (fun q => ?_)
        · have hlt : t < i := by have := of_decide_eq_true q; simp only [e1] at this; omega
          obtain ⟨y, hy⟩ : ∃ z, B[t]? = some z := ⟨_, List.getElem?_eq_getElem (by omega)⟩
          have hL1 : upL P B Q x t = (P ++ B.take t) ++ x :: y :: (B.drop (t + 1) ++ Q) := by rw [upL, yE hy]; rfl
          have hL2 : upL P B Q x (t + 1) = (P ++ B.take t) ++ y :: x :: (B.drop (t + 1) ++ Q) := by rw [upL, yo hy]; simp
          have hu : (P ++ B.take t).length = P.length + t := by simp; omega
          have e2 : IntKind.i64.wrap (((P.length + t : Nat) : Int) + 1) = ((P.length + t + 1 : Nat) : Int) := by rw [IntKind.wrap_i64]; omega
          have g0 : (upL P B Q x t)[0 + (P.length + t)]? = some x := by rw [hL1, List.getElem?_append_right (by omega), hu, show 0 + (P.length + t) - (P.length + t) = 0 by omega]; rfl
          have g1 : (upL P B Q x t)[0 + (P.length + t + 1)]? = some y := by rw [hL1, List.getElem?_append_right (by omega), hu, show 0 + (P.length + t + 1) - (P.length + t) = 1 by omega]; rfl
          repeat' first | refine zK ?_ | refine zA ?_ | (refine isA ?_; refine zf rfl ?_) | (refine isL ?_; refine zU rfl (by kernel_rfl) rfl rfl ?_) | (refine zb rfl ?_; refine zT rfl (by kernel_rfl) rfl rfl ?_) | refine zD ?_ | refine zB _ rfl (by kernel_rfl) ?_ | refine zV rfl ?_ | refine zW rfl ?_ | refine zC ?_ | with_reducible refine zO ?_ | refine zH ?_ | refine zI ?_ | (with_reducible first | refine zM ?_ | refine zN ?_ | refine zE ?_ | refine zG ?_ | refine zF ?_) | refine zP ?_
          refine ql [15, 17] 18 rfl ?_
          refine ya 0 rfl (by kernel_rfl) rfl (fun _ => rfl) rfl ?_
          refine ya 1 rfl (by kernel_rfl) rfl (fun _ => rfl) rfl ?_
          refine ya 2 rfl (by kernel_rfl) rfl (fun _ => rfl) rfl ?_
          refine ya 3 rfl (by kernel_rfl) rfl (fun _ => rfl) rfl ?_
          refine ya 4 rfl (by kernel_rfl) rfl (fun _ => rfl) rfl ?_
          refine ya 5 rfl (by kernel_rfl) rfl (fun _ => rfl) rfl ?_
          refine ya 6 rfl (by kernel_rfl) rfl (fun _ => rfl) rfl ?_
          refine ya 7 rfl (by kernel_rfl) rfl (fun _ => rfl) rfl ?_
          refine xM 8 rfl (by kernel_rfl) rfl (z4 (j := ((P.length + t + 1 : Nat) : Int)) rfl rfl rfl (Nat.zero_le _) rfl (congrArg I e2) (Int.natCast_nonneg _) (by omega)) rfl ?_
          refine xM 9 rfl (by kernel_rfl) rfl (xF (T := rwT) (i := 0 + (P.length + t + 1)) (z := y) rfl rfl rfl g1) rfl ?_
          refine ya 10 rfl (by kernel_rfl) rfl (fun _ => rfl) rfl ?_
          refine ya 11 rfl (by kernel_rfl) rfl (fun _ => rfl) rfl ?_
          refine xM 12 rfl (by kernel_rfl) rfl (z4 (j := ((P.length + t : Nat) : Int)) rfl rfl rfl (Nat.zero_le _) rfl rfl (Int.natCast_nonneg _) (by omega)) rfl ?_
          refine xM 13 rfl (by kernel_rfl) rfl (xF (T := rwT) (i := 0 + (P.length + t)) (z := x) rfl rfl rfl g0) rfl ?_
          refine xM 14 rfl (by kernel_rfl) rfl (z4 (j := ((P.length + t : Nat) : Int)) rfl rfl rfl (Nat.zero_le _) rfl rfl (Int.natCast_nonneg _) (by omega)) rfl ?_
          refine tR 15 rfl (by kernel_rfl) rfl rfl (tP (T := rwT) (i := 0 + (P.length + t)) (z := y) rfl rfl rfl rfl rfl (List.getElem?_eq_some_iff.1 g0).1) rfl ?_
          refine xM 16 rfl (by kernel_rfl) rfl (z4 (j := ((P.length + t + 1 : Nat) : Int)) rfl rfl rfl (Nat.zero_le _) rfl (congrArg I e2) (Int.natCast_nonneg _) (by omega)) rfl ?_
          refine tR 17 rfl (by kernel_rfl) rfl rfl (tP (T := rwT) (i := 0 + (P.length + t + 1)) (z := x) rfl rfl rfl rfl rfl (by rw [List.length_set]; exact (List.getElem?_eq_some_iff.1 g1).1)) rfl ?_
          refine ud (by kernel_rfl) ?_
          repeat' first | refine zK ?_ | refine zA ?_ | refine zL [] ?_ | (refine isA ?_; refine zf rfl ?_) | (refine isL ?_; refine zU rfl (by kernel_rfl) rfl rfl ?_) | (refine zb rfl ?_; refine zT rfl (by kernel_rfl) rfl rfl ?_) | refine zD ?_ | refine zB _ rfl (by kernel_rfl) ?_ | refine zV rfl ?_ | refine zW rfl ?_ | refine zC ?_ | with_reducible refine zO ?_ | refine zH ?_ | refine zI ?_ | (with_reducible first | refine zM ?_ | refine zN ?_ | refine zE ?_ | refine zG ?_ | refine zF ?_) | refine zP ?_
          refine ⟨⟨t + 1, hlt⟩, by simp only; omega, ?_⟩
          exact yy 1 [0] rfl rfl yZ (by decide) (.cons rfl rfl rfl rfl (yh (show rwT.flat (((upL P B Q x t).set (0 + (P.length + t)) y).set (0 + (P.length + t + 1)) x) = rwT.flat (upL P B Q x (t + 1)) by rw [hL1, Nat.zero_add, Nat.zero_add, gV hu, hL2]) (zJ _ _)) .nil) (by
            repeat' first | exact zg | refine zZ ?_ ?_ | exact zo | exact le_refl rfl | exact zj rfl rfl | exact z8 (congrArg _ (show ((P.length + (t + 1) : Nat) : Int) = IntKind.i64.wrap (((P.length + t : Nat) : Int) + 1) by rw [e2]; omega)))
        · have hge : t = i := by have := of_decide_eq_false q; simp only [e1] at this; omega
          subst hge
          have e3 : upL P B Q x t = P ++ yJ ([x] ++ B) ++ Q := by rw [← hfin, upL]; simp
          repeat' first | refine zK ?_ | refine zA ?_ | refine zL [] ?_ | (refine isA ?_; refine zf rfl ?_) | (refine isL ?_; refine zU rfl (by kernel_rfl) rfl rfl ?_) | (refine zb rfl ?_; refine zT rfl (by kernel_rfl) rfl rfl ?_) | exact kT 1 [0] yZ (by decide) (.cons rfl rfl rfl rfl (yh (congrArg rwT.flat e3) (zJ _ _)) .nil) | refine zD ?_ | refine zB _ rfl (by kernel_rfl) ?_ | refine zV rfl ?_ | refine zW rfl ?_ | refine zC ?_ | with_reducible refine zO ?_ | refine zH ?_ | refine zI ?_ | (with_reducible first | refine zM ?_ | refine zN ?_ | refine zE ?_ | refine zG ?_ | refine zF ?_) | refine zP ?_
end Go.Proofs.Ytojcojanokhnaaa.Ab
namespace Go.Proofs.Ytojcojanokhnaaa.Ab
open Go.RowKit
theorem eX (P A Q : List Rw) (x : Rw) (hA : Srt A) (h0 : 2 ≤ A.length) (hl : (P ++ A ++ [x] ++ Q).length ≤ 100000000) : zy Go.Proofs.Try.prog 131 [.sl 0 0 (P ++ A ++ [x] ++ Q).length, I P.length, I (P ++ A).length, I (P ++ A ++ [x]).length, .fn 64 []] [rwR (P ++ A ++ [x] ++ Q)] (.tup []) [rwR (P ++ yJ (A ++ [x]) ++ Q)] true := by
  have l1 : (P ++ A).length = P.length + A.length := by simp
  have l2 : (P ++ A ++ [x]).length = P.length + A.length + 1 := by simp; omega
  have l3 : (P ++ A ++ [x] ++ Q).length = P.length + A.length + 1 + Q.length := by simp; omega
  generalize hm : (P ++ A).length = m at l1 ⊢
  generalize hb : (P ++ A ++ [x]).length = b at l2 ⊢
  generalize hL : (P ++ A ++ [x] ++ Q).length = L at hl l3 ⊢
  refine zw [] Go.Proofs.Try.func131 rfl rfl ?_
  simp only [Go.Proofs.Try.ntmps131, List.length_cons, List.length_nil, Nat.reduceAdd, Nat.reduceSub, List.replicate_succ, List.replicate_zero, List.cons_append, List.nil_append]
  repeat' first | refine zK ?_ | refine zA ?_ | refine zL [] ?_ | (refine isA ?_; refine zf rfl ?_) | (refine isL ?_; refine zU rfl (by kernel_rfl) rfl rfl ?_) | (refine zb rfl ?_; refine zT rfl (by kernel_rfl) rfl rfl ?_) | refine zD ?_ | refine zB _ rfl (by kernel_rfl) ?_ | refine zV rfl ?_ | refine zW rfl ?_ | refine zC ?_ | with_reducible refine zO ?_ | refine zH ?_ | refine zI ?_ | (with_reducible first | refine zM ?_ | refine zN ?_ | refine zE ?_ | refine zG ?_ | refine zF ?_) | refine zP ?_
  refine zd rfl (fun h => absurd (of_decide_eq_true h) (by rw [IntKind.wrap_i64]; omega)) (fun _ => ?_)
  repeat' first | refine zK ?_ | refine zA ?_ | refine zL [] ?_ | (refine isA ?_; refine zf rfl ?_) | (refine isL ?_; refine zU rfl (by kernel_rfl) rfl rfl ?_) | (refine zb rfl ?_; refine zT rfl (by kernel_rfl) rfl rfl ?_) | refine zD ?_ | refine zB _ rfl (by kernel_rfl) ?_ | refine zV rfl ?_ | refine zW rfl ?_ | refine zC ?_ | with_reducible refine zO ?_ | refine zH ?_ | refine zI ?_ | (with_reducible first | refine zM ?_ | refine zN ?_ | refine zE ?_ | refine zG ?_ | refine zF ?_) | refine zP ?_
  refine zd rfl (fun _ => ?_) (fun h => absurd (of_decide_eq_false h) (by rw [IntKind.wrap_i64]; omega))
  repeat' first | refine zK ?_ | refine zA ?_ | refine zL [] ?_ | (refine isA ?_; refine zf rfl ?_) | (refine isL ?_; refine zU rfl (by kernel_rfl) rfl rfl ?_) | (refine zb rfl ?_; refine zT rfl (by kernel_rfl) rfl rfl ?_) | refine zD ?_ | refine zB _ rfl (by kernel_rfl) ?_ | refine zV rfl ?_ | refine zW rfl ?_ | refine zC ?_ | with_reducible refine zO ?_ | refine zH ?_ | refine zI ?_ | (with_reducible first | refine zM ?_ | refine zN ?_ | refine zE ?_ | refine zG ?_ | refine zF ?_) | refine zP ?_
  refine z9 (α := { p : Nat × Nat // p.1 ≤ p.2 ∧ p.2 ≤ A.length ∧ (∀ z, 0 < p.1 → A[p.1 - 1]? = some z → leW z x) ∧ (∀ z, A[p.2]? = some z → leW x z) }) (fun p => ⟨((.sl 0 0 L) :: (I P.length) :: (I m) :: (I b) :: (.fn 64 []) :: .any :: .any :: .any :: .any :: .any :: .any :: .any :: .any :: .any :: (I ((P.length + p.1.1 : Nat) : Int)) :: (I ((P.length + p.1.2 : Nat) : Int)) :: .any :: .any :: .any :: .any :: .any :: .any :: .any :: .any :: .any :: .any :: .any :: .any :: .any :: .any :: .any :: .any :: .any :: .any :: .any :: .any :: .any :: .any :: .any :: .any :: .any :: .any :: .any :: .any :: .any :: .any :: .any :: .any :: .any :: .any :: .any :: .any :: .any :: .any :: .any :: .any :: .any :: .any :: .any :: .any :: .any :: .any :: .any :: .any :: .any :: .any :: .any :: .any :: .any :: .any :: .any :: .any :: .any :: .any :: .any :: .any :: .any :: .any :: .any :: .any :: .any :: .any :: .any :: .any :: .any :: .any :: .any :: .any :: .any :: .any :: .any :: .any :: .any :: .any :: .any :: .any :: .any :: .any :: .any :: .any :: .any :: .any :: .any :: .any :: .any :: .any :: .any :: .any :: .any :: .any :: .any :: .any :: .any :: .any :: .any :: .any :: .any :: .any :: .any :: .any :: .any :: .any :: .any :: .any :: .any :: .any :: .any :: .any :: .any :: .any :: .any :: .any :: .any :: .any :: .any :: .any :: .any :: .any :: .any :: .any :: .any :: .any :: .any :: .any :: .any :: .any :: .any :: .any :: .any :: .any :: .any :: .any :: .any :: .any :: .any :: .any :: .any :: .any :: .any :: .any :: .any :: .any :: .any :: .any :: .any :: .any :: .any :: .any :: .any :: .any :: .any :: .any :: .any :: .any :: .any :: .any :: .any :: .any :: .any :: .any :: .any :: .any :: .any :: .any :: .any :: .any :: .any :: .any :: .any :: .any :: .any :: .any :: .any :: .any :: .any :: .any :: .any :: .any :: .any :: .any :: .any :: .any :: .any :: .any :: .any :: .any :: .any :: .any :: .any :: .any :: .any :: .any :: .any :: .any :: .any :: .any :: .any :: .any :: .any :: .any :: []), [rwR (P ++ A ++ [x] ++ Q)], 1⟩) (fun p => p.1.2 - p.1.1) ⟨(0, A.length), Nat.zero_le _, Nat.le_refl _, fun _ h => absurd h (Nat.lt_irrefl 0), fun z hz => absurd (List.getElem?_eq_some_iff.1 hz).1 (Nat.lt_irrefl _)⟩ ?_ ?_
  · exact yy 1 [0] rfl rfl yZ (by decide) (.cons rfl rfl rfl rfl (zY (zJ _ _)) .nil) (by
          repeat' first | exact zg | refine zZ ?_ ?_ | exact zo | exact le_refl rfl | exact zj rfl rfl | exact z8 (congrArg _ (show ((P.length + A.length : Nat) : Int) = (m : Int) by omega)))
  · rintro ⟨⟨i, j⟩, hij, hj, hlo, hhi⟩
    simp only at hij hj hlo hhi
    repeat' first | refine zK ?_ | refine zA ?_ | refine zL [] ?_ | (refine isA ?_; refine zf rfl ?_) | (refine isL ?_; refine zU rfl (by kernel_rfl) rfl rfl ?_) | (refine zb rfl ?_; refine zT rfl (by kernel_rfl) rfl rfl ?_) | refine zD ?_ | refine zB _ rfl (by kernel_rfl) ?_ | refine zV rfl ?_ | refine zW rfl ?_ | refine zC ?_ | with_reducible refine zO ?_ | refine zH ?_ | refine zI ?_ | (with_reducible first | refine zM ?_ | refine zN ?_ | refine zE ?_ | refine zG ?_ | refine zF ?_) | refine zP ?_
    refine zd rfl (fun h => ?_) (fun h => ?_)
    · have hlt : i < j := by have := of_decide_eq_true h; simp only at this; omega
      obtain ⟨k, hk⟩ : ∃ k, k = (i + j) / 2 := ⟨_, rfl⟩
      have k1 : i ≤ k ∧ k < j := by omega
      have hv : IntKind.i64.wrap (vU .u64 (IntKind.u64.wrap (IntKind.i64.wrap (((P.length + i : Nat) : Int) + ((P.length + j : Nat) : Int)))) 1) = ((P.length + k : Nat) : Int) := by
        rw [uk (by omega)]; omega
      obtain ⟨y, hy⟩ : ∃ z, A[k]? = some z := ⟨_, List.getElem?_eq_getElem (by omega)⟩
      have gy : (P ++ A ++ [x] ++ Q)[0 + (P.length + k)]? = some y := by
        rw [List.append_assoc, List.getElem?_append_left (by omega), List.getElem?_append_right (by omega), show 0 + (P.length + k) - P.length = k by omega]; exact hy
      have gx : (P ++ A ++ [x] ++ Q)[0 + m]? = some x := by
        rw [List.append_assoc, List.getElem?_append_right (by omega), hm, show 0 + m - m = 0 by omega]; rfl
      repeat' first | refine zK ?_ | refine zA ?_ | refine zL [] ?_ | (refine isA ?_; refine zf rfl ?_) | (refine isL ?_; refine zU rfl (by kernel_rfl) rfl rfl ?_) | (refine zb rfl ?_; refine zT rfl (by kernel_rfl) rfl rfl ?_) | refine zc rfl (xc (n := 1) rfl rfl rfl) rfl ?_ | refine zX rfl (by kernel_rfl) rfl (xc (n := 1) rfl rfl rfl) rfl ?_ | (refine yG (x := .tmp 97) ?_; refine zc rfl (z4 (j := ((P.length + k : Nat) : Int)) rfl rfl rfl (Nat.zero_le _) rfl (congrArg I hv) (Int.natCast_nonneg _) (by omega)) rfl ?_) | (refine yF (x := .tmp 97) rfl ?_; refine zX rfl (by kernel_rfl) rfl (z4 (j := ((P.length + k : Nat) : Int)) rfl rfl rfl (Nat.zero_le _) rfl (congrArg I hv) (Int.natCast_nonneg _) (by omega)) rfl ?_) | (refine yG (x := .tmp 93) ?_; refine zc rfl (z4 (j := (m : Int)) rfl rfl rfl (Nat.zero_le _) rfl rfl (Int.natCast_nonneg _) (by omega)) rfl ?_) | (refine yF (x := .tmp 93) rfl ?_; refine zX rfl (by kernel_rfl) rfl (z4 (j := (m : Int)) rfl rfl rfl (Nat.zero_le _) rfl rfl (Int.natCast_nonneg _) (by omega)) rfl ?_) | (refine wT (x := .tmp 99) ?_; refine zc rfl (xF (T := rwT) (i := 0 + (P.length + k)) (z := y) rfl rfl rfl gy) rfl ?_) | (refine wW (x := .tmp 99) rfl ?_; refine zX rfl (by kernel_rfl) rfl (xF (T := rwT) (i := 0 + (P.length + k)) (z := y) rfl rfl rfl gy) rfl ?_) | (refine wT (x := .tmp 95) ?_; refine zc rfl (xF (T := rwT) (i := 0 + m) (z := x) rfl rfl rfl gx) rfl ?_) | (refine wW (x := .tmp 95) rfl ?_; refine zX rfl (by kernel_rfl) rfl (xF (T := rwT) (i := 0 + m) (z := x) rfl rfl rfl gx) rfl ?_) | refine zc rfl (wO rfl rfl (xb x y) (.cons (.same rfl) (.cons (.same rfl) .nil)) rfl) rfl ?_ | refine zX rfl (by kernel_rfl) rfl (wO rfl rfl (xb x y) (.cons (.same rfl) (.cons (.same rfl) .nil)) rfl) rfl ?_ | refine zD ?_ | refine zB _ rfl (by kernel_rfl) ?_ | refine zV rfl ?_ | refine zW rfl ?_ | refine zC ?_ | with_reducible refine zO ?_ | refine zH ?_ | refine zI ?_ | (with_reducible first | refine zM ?_ | refine zN ?_ | refine zE ?_ | refine zG ?_ | refine zF ?_) | refine zP ?_
      refine zd rfl (fun p => ?_) (fun p => ?_)
      · have p' : decide (yr x y < 0) = false := by simpa using p
        have q : leW y x := Classical.byContradiction fun hn => absurd (xN.2 hn) (of_decide_eq_false p')
        repeat' first | refine zK ?_ | refine zA ?_ | refine zL [] ?_ | (refine isA ?_; refine zf rfl ?_) | (refine isL ?_; refine zU rfl (by kernel_rfl) rfl rfl ?_) | (refine zb rfl ?_; refine zT rfl (by kernel_rfl) rfl rfl ?_) | refine zD ?_ | refine zB _ rfl (by kernel_rfl) ?_ | refine zV rfl ?_ | refine zW rfl ?_ | refine zC ?_ | with_reducible refine zO ?_ | refine zH ?_ | refine zI ?_ | (with_reducible first | refine zM ?_ | refine zN ?_ | refine zE ?_ | refine zG ?_ | refine zF ?_) | refine zP ?_
        refine ⟨⟨(k + 1, j), by simp only; omega, hj, fun z _ hz => by simp only [Nat.add_sub_cancel] at hz; rw [hy] at hz; cases hz; exact q, hhi⟩, by simp only; omega, ?_⟩
        exact yy 1 [0] rfl rfl yZ (by decide) (.cons rfl rfl rfl rfl (zY (zJ _ _)) .nil) (by
          repeat' first | exact zg | refine zZ ?_ ?_ | exact zo | exact le_refl rfl | exact zj rfl rfl | exact z8 (congrArg _ (show ((P.length + (k + 1) : Nat) : Int) = IntKind.i64.wrap (IntKind.i64.wrap (vU .u64 (IntKind.u64.wrap (IntKind.i64.wrap (((P.length + i : Nat) : Int) + ((P.length + j : Nat) : Int)))) 1) + 1) by rw [hv, IntKind.wrap_i64]; omega)))
      · have p' : decide (yr x y < 0) = true := by simpa using p
        have q := wd (xN.1 (of_decide_eq_true p'))
        repeat' first | refine zK ?_ | refine zA ?_ | refine zL [] ?_ | (refine isA ?_; refine zf rfl ?_) | (refine isL ?_; refine zU rfl (by kernel_rfl) rfl rfl ?_) | (refine zb rfl ?_; refine zT rfl (by kernel_rfl) rfl rfl ?_) | refine zD ?_ | refine zB _ rfl (by kernel_rfl) ?_ | refine zV rfl ?_ | refine zW rfl ?_ | refine zC ?_ | with_reducible refine zO ?_ | refine zH ?_ | refine zI ?_ | (with_reducible first | refine zM ?_ | refine zN ?_ | refine zE ?_ | refine zG ?_ | refine zF ?_) | refine zP ?_
        refine ⟨⟨(i, k), k1.1, by simp only; omega, hlo, fun z hz => by rw [hy] at hz; cases hz; exact q⟩, by simp only; omega, ?_⟩
        exact yy 1 [0] rfl rfl yZ (by decide) (.cons rfl rfl rfl rfl (zY (zJ _ _)) .nil) (by
          repeat' first | exact zg | refine zZ ?_ ?_ | exact zo | exact le_refl rfl | exact zj rfl rfl | exact z8 (congrArg _ hv.symm))
    · have e : i = j := by have := of_decide_eq_false h; simp only at this; omega
      subst e
      have hfin := ll hA hj hlo hhi
      repeat' first | refine zK ?_ | refine zA ?_ | refine zL [] ?_ | (refine isA ?_; refine zf rfl ?_) | (refine isL ?_; refine zU rfl (by kernel_rfl) rfl rfl ?_) | (refine zb rfl ?_; refine zT rfl (by kernel_rfl) rfl rfl ?_) | refine zD ?_ | refine zB _ rfl (by kernel_rfl) ?_ | refine zV rfl ?_ | refine zW rfl ?_ | refine zC ?_ | with_reducible refine zO ?_ | refine zH ?_ | refine zI ?_ | (with_reducible first | refine zM ?_ | refine zN ?_ | refine zE ?_ | refine zG ?_ | refine zF ?_) | refine zP ?_
      refine z9 (α := { t : Nat // i ≤ t ∧ t ≤ A.length }) (fun t => ⟨((.sl 0 0 L) :: .any :: .any :: .any :: .any :: .any :: .any :: .any :: .any :: .any :: .any :: .any :: .any :: .any :: (I ((P.length + i : Nat) : Int)) :: .any :: .any :: (I ((P.length + t.1 : Nat) : Int)) :: .any :: .any :: .any :: .any :: .any :: .any :: .any :: .any :: .any :: .any :: .any :: .any :: .any :: .any :: .any :: .any :: .any :: .any :: .any :: .any :: .any :: .any :: .any :: .any :: .any :: .any :: .any :: .any :: .any :: .any :: .any :: .any :: .any :: .any :: .any :: .any :: .any :: .any :: .any :: .any :: .any :: .any :: .any :: .any :: .any :: .any :: .any :: .any :: .any :: .any :: .any :: .any :: .any :: .any :: .any :: .any :: .any :: .any :: .any :: .any :: .any :: .any :: .any :: .any :: .any :: .any :: .any :: .any :: .any :: .any :: .any :: .any :: .any :: .any :: .any :: .any :: .any :: .any :: .any :: .any :: .any :: .any :: .any :: .any :: .any :: .any :: .any :: .any :: .any :: .any :: .any :: .any :: .any :: .any :: .any :: .any :: .any :: .any :: .any :: .any :: .any :: .any :: .any :: .any :: .any :: .any :: .any :: .any :: .any :: .any :: .any :: .any :: .any :: .any :: .any :: .any :: .any :: .any :: .any :: .any :: .any :: .any :: .any :: .any :: .any :: .any :: .any :: .any :: .any :: .any :: .any :: .any :: .any :: .any :: .any :: .any :: .any :: .any :: .any :: .any :: .any :: .any :: .any :: .any :: .any :: .any :: .any :: .any :: .any :: .any :: .any :: .any :: .any :: .any :: .any :: .any :: .any :: .any :: .any :: .any :: .any :: .any :: .any :: .any :: .any :: .any :: .any :: .any :: .any :: .any :: .any :: .any :: .any :: .any :: .any :: .any :: .any :: .any :: .any :: .any :: .any :: .any :: .any :: .any :: .any :: .any :: .any :: .any :: .any :: .any :: .any :: .any :: .any :: .any :: .any :: .any :: .any :: .any :: .any :: .any :: .any :: .any :: []), [rwR (upL P A Q x t.1)], 1⟩) (fun t => t.1) ⟨A.length, hj, Nat.le_refl _⟩ ?_ ?_
      · exact yy 1 [0] rfl rfl yZ (by decide) (.cons rfl rfl rfl rfl (yh (congrArg rwT.flat (by simp [upL])) (zJ _ _)) .nil) (by
          repeat' first | exact zg | refine zZ ?_ ?_ | exact zo | exact le_refl rfl | exact zj rfl rfl | exact z8 (congrArg _ (show ((P.length + A.length : Nat) : Int) = (m : Int) by omega)))
      · rintro ⟨t', ht1, ht2⟩
        repeat' first | refine zK ?_ | refine zA ?_ | refine zL [] ?_ | (refine isA ?_; refine zf rfl ?_) | (refine isL ?_; refine zU rfl (by kernel_rfl) rfl rfl ?_) | (refine zb rfl ?_; refine zT rfl (by kernel_rfl) rfl rfl ?_) | refine zD ?_ | refine zB _ rfl (by kernel_rfl) ?_ | refine zV rfl ?_ | refine zW rfl ?_ | refine zC ?_ | with_reducible refine zO ?_ | refine zH ?_ | refine zI ?_ | (with_reducible first | refine zM ?_ | refine zN ?_ | refine zE ?_ | refine zG ?_ | refine zF ?_) | refine zP ?_
        refine zd rfl (fun q => ?_) (fun q => ?_)
        · have hlt : i < t' := by have := of_decide_eq_true q; simp only at this; omega
          obtain ⟨t, rfl⟩ : ∃ t, t' = t + 1 := ⟨t' - 1, by omega⟩
          obtain ⟨y, hy⟩ : ∃ z, A[t]? = some z := ⟨_, List.getElem?_eq_getElem (by omega)⟩
          have hL1 : upL P A Q x (t + 1) = (P ++ A.take t) ++ y :: x :: (A.drop (t + 1) ++ Q) := by rw [upL, yo hy]; simp
          have hL2 : upL P A Q x t = (P ++ A.take t) ++ x :: y :: (A.drop (t + 1) ++ Q) := by rw [upL, yE hy]; rfl
          have hu : (P ++ A.take t).length = P.length + t := by simp; omega
          have ew : IntKind.i64.wrap (((P.length + (t + 1) : Nat) : Int) - 1) = ((P.length + t : Nat) : Int) := by rw [IntKind.wrap_i64]; omega
          have g0 : (upL P A Q x (t + 1))[0 + (P.length + t)]? = some y := by rw [hL1, List.getElem?_append_right (by omega), hu, show 0 + (P.length + t) - (P.length + t) = 0 by omega]; rfl
          have g1 : (upL P A Q x (t + 1))[0 + (P.length + t + 1)]? = some x := by rw [hL1, List.getElem?_append_right (by omega), hu, show 0 + (P.length + t + 1) - (P.length + t) = 1 by omega]; rfl
          repeat' first | refine zK ?_ | refine zA ?_ | (refine isA ?_; refine zf rfl ?_) | (refine isL ?_; refine zU rfl (by kernel_rfl) rfl rfl ?_) | (refine zb rfl ?_; refine zT rfl (by kernel_rfl) rfl rfl ?_) | refine zD ?_ | refine zB _ rfl (by kernel_rfl) ?_ | refine zV rfl ?_ | refine zW rfl ?_ | refine zC ?_ | with_reducible refine zO ?_ | refine zH ?_ | refine zI ?_ | (with_reducible first | refine zM ?_ | refine zN ?_ | refine zE ?_ | refine zG ?_ | refine zF ?_) | refine zP ?_
          refine ql [15, 17] 18 rfl ?_
          refine ya 0 rfl (by kernel_rfl) rfl (fun _ => rfl) rfl ?_
          refine ya 1 rfl (by kernel_rfl) rfl (fun _ => rfl) rfl ?_
          refine ya 2 rfl (by kernel_rfl) rfl (fun _ => rfl) rfl ?_
          refine ya 3 rfl (by kernel_rfl) rfl (fun _ => rfl) rfl ?_
          refine ya 4 rfl (by kernel_rfl) rfl (fun _ => rfl) rfl ?_
          refine ya 5 rfl (by kernel_rfl) rfl (fun _ => rfl) rfl ?_
          refine ya 6 rfl (by kernel_rfl) rfl (fun _ => rfl) rfl ?_
          refine ya 7 rfl (by kernel_rfl) rfl (fun _ => rfl) rfl ?_
          refine xM 8 rfl (by kernel_rfl) rfl (z4 (j := ((P.length + t : Nat) : Int)) rfl rfl rfl (Nat.zero_le _) rfl (congrArg I ew) (Int.natCast_nonneg _) (by omega)) rfl ?_
          refine xM 9 rfl (by kernel_rfl) rfl (xF (T := rwT) (i := 0 + (P.length + t)) (z := y) rfl rfl rfl g0) rfl ?_
          refine ya 10 rfl (by kernel_rfl) rfl (fun _ => rfl) rfl ?_
          refine ya 11 rfl (by kernel_rfl) rfl (fun _ => rfl) rfl ?_
          refine xM 12 rfl (by kernel_rfl) rfl (z4 (j := ((P.length + t + 1 : Nat) : Int)) rfl rfl rfl (Nat.zero_le _) rfl rfl (Int.natCast_nonneg _) (by omega)) rfl ?_
          refine xM 13 rfl (by kernel_rfl) rfl (xF (T := rwT) (i := 0 + (P.length + t + 1)) (z := x) rfl rfl rfl g1) rfl ?_
          refine xM 14 rfl (by kernel_rfl) rfl (z4 (j := ((P.length + t + 1 : Nat) : Int)) rfl rfl rfl (Nat.zero_le _) rfl rfl (Int.natCast_nonneg _) (by omega)) rfl ?_
          refine tR 15 rfl (by kernel_rfl) rfl rfl (tP (T := rwT) (i := 0 + (P.length + t + 1)) (z := y) rfl rfl rfl rfl rfl (List.getElem?_eq_some_iff.1 g1).1) rfl ?_
          refine xM 16 rfl (by kernel_rfl) rfl (z4 (j := ((P.length + t : Nat) : Int)) rfl rfl rfl (Nat.zero_le _) rfl (congrArg I ew) (Int.natCast_nonneg _) (by omega)) rfl ?_
          refine tR 17 rfl (by kernel_rfl) rfl rfl (tP (T := rwT) (i := 0 + (P.length + t)) (z := x) rfl rfl rfl rfl rfl (by rw [List.length_set]; exact (List.getElem?_eq_some_iff.1 g0).1)) rfl ?_
          refine ud (by kernel_rfl) ?_
          repeat' first | refine zK ?_ | refine zA ?_ | refine zL [] ?_ | (refine isA ?_; refine zf rfl ?_) | (refine isL ?_; refine zU rfl (by kernel_rfl) rfl rfl ?_) | (refine zb rfl ?_; refine zT rfl (by kernel_rfl) rfl rfl ?_) | refine zD ?_ | refine zB _ rfl (by kernel_rfl) ?_ | refine zV rfl ?_ | refine zW rfl ?_ | refine zC ?_ | with_reducible refine zO ?_ | refine zH ?_ | refine zI ?_ | (with_reducible first | refine zM ?_ | refine zN ?_ | refine zE ?_ | refine zG ?_ | refine zF ?_) | refine zP ?_
          refine ⟨⟨t, by omega, by omega⟩, by simp only; omega, ?_⟩
          exact yy 1 [0] rfl rfl yZ (by decide) (.cons rfl rfl rfl rfl (yh (show rwT.flat (((upL P A Q x (t + 1)).set (0 + (P.length + t + 1)) y).set (0 + (P.length + t)) x) = rwT.flat (upL P A Q x t) by rw [hL1, Nat.zero_add, Nat.zero_add, nW hu, hL2]) (zJ _ _)) .nil) (by
          repeat' first | exact zg | refine zZ ?_ ?_ | exact zo | exact le_refl rfl | exact zj rfl rfl | exact z8 (congrArg _ ew.symm))
        · have hge : t' = i := by have := of_decide_eq_false q; simp only at this; omega
          subst hge
          have e3 : upL P A Q x t' = P ++ yJ (A ++ [x]) ++ Q := by rw [← hfin, upL]; simp
          repeat' first | refine zK ?_ | refine zA ?_ | refine zL [] ?_ | (refine isA ?_; refine zf rfl ?_) | (refine isL ?_; refine zU rfl (by kernel_rfl) rfl rfl ?_) | (refine zb rfl ?_; refine zT rfl (by kernel_rfl) rfl rfl ?_) | exact kT 1 [0] yZ (by decide) (.cons rfl rfl rfl rfl (yh (congrArg rwT.flat e3) (zJ _ _)) .nil) | refine zD ?_ | refine zB _ rfl (by kernel_rfl) ?_ | refine zV rfl ?_ | refine zW rfl ?_ | refine zC ?_ | with_reducible refine zO ?_ | refine zH ?_ | refine zI ?_ | (with_reducible first | refine zM ?_ | refine zN ?_ | refine zE ?_ | refine zG ?_ | refine zF ?_) | refine zP ?_
end Go.Proofs.Ytojcojanokhnaaa.Ab
namespace Go.Proofs.Ytojcojanokhnaaa.Ab
open Go.RowKit
theorem xW {P : Program} (id : Nat) {ops : Array Oper} {b : Bool} {c y : Code} {Q : Exit → St → Prop} {S : St} (T : St) (h : AW P (.seq (.region id ops b) c) (fun e S' => e = .normal ∧ Sub T S') S) (k : AW P y Q T) : AW P (.seq (.seq (.region id ops b) c) y) Q S :=
  zK ⟨fun C φ a w hI => wp_mono (h.out C φ a w hI) fun e a' w' hq => by
    obtain ⟨S', φ1, hI', he, hs⟩ := hq
    subst he
    obtain ⟨φ2, h2⟩ := hs C φ1 a' w' hI'
    exact ⟨T, φ2, h2, k⟩⟩
theorem eq {ds rs : List Rw} {L : Nat} {a m b : Int} (P X Y Q : List Rw) (hd : ds = P ++ X ++ Y ++ Q) (hL : L = ds.length) (hl : L ≤ 100000000) (ha : a = (P.length : Int)) (hm : m = ((P ++ X).length : Int)) (hb : b = ((P ++ X ++ Y).length : Int)) (hx : 0 < X.length) (hy : 0 < Y.length) (hr : rs = P ++ Y ++ X ++ Q) :
    zy Go.Proofs.Try.prog 132 [.sl 0 0 L, I a, I m, I b, .fn 64 []] [rwR ds] (.tup []) [rwR rs] true := by
  subst hd hL ha hm hb hr
  exact jq P X Y Q hx hy hl
def lE (P A B Q : List Rw) : Prop := zy Go.Proofs.Try.prog 131 [.sl 0 0 (P ++ A ++ B ++ Q).length, I P.length, I (P ++ A).length, I (P ++ A ++ B).length, .fn 64 []] [rwR (P ++ A ++ B ++ Q)] (.tup []) [rwR (P ++ yJ (A ++ B) ++ Q)] true
theorem lE.x {ds rs : List Rw} {L : Nat} {a m b : Int} {P A B Q : List Rw} (h : lE P A B Q) (hd : ds = P ++ A ++ B ++ Q) (hL : L = ds.length) (ha : a = (P.length : Int)) (hm : m = ((P ++ A).length : Int)) (hb : b = ((P ++ A ++ B).length : Int)) (hr : rs = P ++ yJ (A ++ B) ++ Q) :
    zy Go.Proofs.Try.prog 131 [.sl 0 0 L, I a, I m, I b, .fn 64 []] [rwR ds] (.tup []) [rwR rs] true := by
  subst hd hL ha hm hb hr
  exact h
theorem vx {A B : List Rw} (hA : Srt A) (hB : Srt B) (h : A.length = 0 ∨ B.length = 0) : A ++ B = yJ (A ++ B) := by
  rcases h with h | h
  · rw [List.eq_nil_of_length_eq_zero h, List.nil_append, nb hB]
  · rw [List.eq_nil_of_length_eq_zero h, List.append_nil, nb hA]
theorem eW (P A B Q : List Rw) (hA : Srt A) (hB : Srt B) (h0 : 2 ≤ A.length) (h1 : 2 ≤ B.length) (hl : (P ++ A ++ B ++ Q).length ≤ 100000000)
    (IH : ∀ P' A' B' Q', A'.length + B'.length < A.length + B.length → Srt A' → Srt B' → 0 < A'.length → 0 < B'.length → (P' ++ A' ++ B' ++ Q').length ≤ 100000000 → lE P' A' B' Q') : lE P A B Q := by
  unfold lE
  have l1 : (P ++ A).length = P.length + A.length := by simp
  have l2 : (P ++ A ++ B).length = P.length + A.length + B.length := by simp; omega
  have l3 : (P ++ A ++ B ++ Q).length = P.length + A.length + B.length + Q.length := by simp; omega
  obtain ⟨w, hw⟩ : ∃ w, w = (A.length + B.length) / 2 := ⟨_, rfl⟩
  have hds : ∀ k x, A[k]? = some x → (P ++ A ++ B ++ Q)[0 + (P.length + k)]? = some x := fun k x hx => by
    have := (List.getElem?_eq_some_iff.1 hx).1
    rw [List.getElem?_append_left (by omega), List.getElem?_append_left (by omega), List.getElem?_append_right (by omega), show 0 + (P.length + k) - P.length = k by omega]; exact hx
  have hdb : ∀ k x, B[k]? = some x → (P ++ A ++ B ++ Q)[0 + (P.length + A.length + k)]? = some x := fun k x hx => by
    have := (List.getElem?_eq_some_iff.1 hx).1
    rw [List.getElem?_append_left (by omega), List.getElem?_append_right (by omega), l1, show 0 + (P.length + A.length + k) - (P.length + A.length) = k by omega]; exact hx
  have eds : P ++ A ++ B ++ Q = P ++ A ++ B ++ Q := rfl
  generalize hm : (P ++ A).length = m at l1 ⊢
  generalize hb : (P ++ A ++ B).length = b at l2 ⊢
  generalize hL : (P ++ A ++ B ++ Q).length = L at hl l3 ⊢
  generalize hD : P ++ A ++ B ++ Q = D at hds hdb hL ⊢
  generalize ha : P.length = a at hds hdb l1 l2 l3 ⊢
  have hv : IntKind.i64.wrap (vU .u64 (IntKind.u64.wrap (IntKind.i64.wrap ((a : Int) + (b : Int)))) 1) = ((a + w : Nat) : Int) := by rw [uk (by omega)]; omega
  refine zw [] Go.Proofs.Try.func131 rfl rfl ?_
  simp only [Go.Proofs.Try.ntmps131, List.length_cons, List.length_nil, Nat.reduceAdd, Nat.reduceSub, List.replicate_succ, List.replicate_zero, List.cons_append, List.nil_append]
  repeat' first | refine zK ?_ | refine zA ?_ | refine zL [] ?_ | (refine isA ?_; refine zf rfl ?_) | (refine isL ?_; refine zU rfl (by kernel_rfl) rfl rfl ?_) | (refine zb rfl ?_; refine zT rfl (by kernel_rfl) rfl rfl ?_) | refine zD ?_ | refine zB _ rfl (by kernel_rfl) ?_ | refine zV rfl ?_ | refine zW rfl ?_ | refine zC ?_ | with_reducible refine zO ?_ | refine zH ?_ | refine zI ?_ | (with_reducible first | refine zM ?_ | refine zN ?_ | refine zE ?_ | refine zG ?_ | refine zF ?_) | refine zP ?_
  refine zd rfl (fun h => absurd (of_decide_eq_true h) (by rw [IntKind.wrap_i64]; omega)) (fun _ => ?_)
  repeat' first | refine zK ?_ | refine zA ?_ | refine zL [] ?_ | (refine isA ?_; refine zf rfl ?_) | (refine isL ?_; refine zU rfl (by kernel_rfl) rfl rfl ?_) | (refine zb rfl ?_; refine zT rfl (by kernel_rfl) rfl rfl ?_) | refine zD ?_ | refine zB _ rfl (by kernel_rfl) ?_ | refine zV rfl ?_ | refine zW rfl ?_ | refine zC ?_ | with_reducible refine zO ?_ | refine zH ?_ | refine zI ?_ | (with_reducible first | refine zM ?_ | refine zN ?_ | refine zE ?_ | refine zG ?_ | refine zF ?_) | refine zP ?_
  refine zd rfl (fun h => absurd (of_decide_eq_true h) (by rw [IntKind.wrap_i64]; omega)) (fun _ => ?_)
  repeat' first | (refine xW 27 ⟨((.sl 0 0 L) :: (I a) :: (I m) :: (I b) :: (.fn 64 []) :: .any :: .any :: .any :: .any :: .any :: .any :: .any :: .any :: .any :: .any :: .any :: .any :: .any :: (I ((a + w : Nat) : Int)) :: (I ((a + w + m : Nat) : Int)) :: (I ((a + (w - B.length) : Nat) : Int)) :: (I ((a + min A.length w : Nat) : Int)) :: .any :: .any :: .any :: .any :: .any :: .any :: .any :: .any :: .any :: .any :: .any :: .any :: .any :: .any :: .any :: .any :: .any :: .any :: .any :: .any :: .any :: .any :: .any :: .any :: .any :: .any :: .any :: .any :: .any :: .any :: .any :: .any :: .any :: .any :: .any :: .any :: .any :: .any :: .any :: .any :: .any :: .any :: .any :: .any :: .any :: .any :: .any :: .any :: .any :: .any :: .any :: .any :: .any :: .any :: .any :: .any :: .any :: .any :: .any :: .any :: .any :: .any :: .any :: .any :: .any :: .any :: .any :: .any :: .any :: .any :: .any :: .any :: .any :: .any :: .any :: .any :: .any :: .any :: .any :: .any :: .any :: .any :: .any :: .any :: .any :: .any :: .any :: .any :: .any :: .any :: .any :: .any :: .any :: .any :: .any :: .any :: .any :: .any :: .any :: .any :: .any :: .any :: .any :: .any :: .any :: .any :: .any :: .any :: .any :: .any :: .any :: .any :: .any :: .any :: .any :: .any :: .any :: .any :: .any :: .any :: .any :: .any :: .any :: .any :: .any :: .any :: .any :: .any :: .any :: .any :: .any :: .any :: .any :: .any :: .any :: .any :: .any :: .any :: .any :: .any :: .any :: .any :: .any :: .any :: .any :: .any :: .any :: .any :: .any :: .any :: .any :: .any :: .any :: .any :: .any :: .any :: .any :: .any :: .any :: .any :: .any :: .any :: .any :: .any :: .any :: .any :: .any :: .any :: .any :: .any :: .any :: .any :: .any :: .any :: .any :: .any :: .any :: .any :: .any :: .any :: .any :: .any :: .any :: .any :: .any :: .any :: .any :: .any :: .any :: .any :: .any :: .any :: .any :: .any :: .any :: .any :: .any :: .any :: []), [rwR D], 1⟩ ?_ ?_) | refine zK ?_ | refine zA ?_ | refine zL [] ?_ | (refine isA ?_; refine zf rfl ?_) | (refine isL ?_; refine zU rfl (by kernel_rfl) rfl rfl ?_) | (refine zb rfl ?_; refine zT rfl (by kernel_rfl) rfl rfl ?_) | refine zc rfl (xc (n := 1) rfl rfl rfl) rfl ?_ | refine zX rfl (by kernel_rfl) rfl (xc (n := 1) rfl rfl rfl) rfl ?_ | refine zD ?_ | refine zB _ rfl (by kernel_rfl) ?_ | refine zV rfl ?_ | refine zW rfl ?_ | refine zC ?_ | with_reducible refine zO ?_ | refine zH ?_ | refine zI ?_ | (with_reducible first | refine zM ?_ | refine zN ?_ | refine zE ?_ | refine zG ?_ | refine zF ?_) | refine zP ?_
  · have lk : ∀ x y z : Int, (x = ((a + w : Nat) : Int)) → y = ((a + w + m : Nat) : Int) → True := fun _ _ _ _ _ => trivial
    refine zd rfl (fun h => ?_) (fun h => ?_)
    · have q : a + w < m := by have := of_decide_eq_true h; simp only [hv] at this; omega
      repeat' first | refine zK ?_ | refine zA ?_ | refine zL [] ?_ | (refine isA ?_; refine zf rfl ?_) | (refine isL ?_; refine zU rfl (by kernel_rfl) rfl rfl ?_) | (refine zb rfl ?_; refine zT rfl (by kernel_rfl) rfl rfl ?_) | refine zD ?_ | refine zB _ rfl (by kernel_rfl) ?_ | refine zV rfl ?_ | refine zW rfl ?_ | refine zC ?_ | with_reducible refine zO ?_ | refine zH ?_ | refine zI ?_ | (with_reducible first | refine zM ?_ | refine zN ?_ | refine zE ?_ | refine zG ?_ | refine zF ?_) | refine zP ?_
      refine ⟨rfl, yy 1 [0] rfl rfl yZ (by decide) (.cons rfl rfl rfl rfl (zY (zJ _ _)) .nil) (by
        repeat' first | exact zg | refine zZ ?_ ?_ | exact zo | exact le_refl rfl | exact zj rfl rfl | exact z8 (congrArg _ hv.symm) | exact z8 (congrArg _ (show ((a + w + m : Nat) : Int) = IntKind.i64.wrap (IntKind.i64.wrap (vU .u64 (IntKind.u64.wrap (IntKind.i64.wrap ((a : Int) + (b : Int)))) 1) + m) by rw [hv, IntKind.wrap_i64]; omega)) | exact z8 (congrArg _ (show ((a + (w - B.length) : Nat) : Int) = IntKind.i64.wrap (IntKind.i64.wrap (IntKind.i64.wrap (vU .u64 (IntKind.u64.wrap (IntKind.i64.wrap ((a : Int) + (b : Int)))) 1) + m) - b) by rw [hv, show IntKind.i64.wrap (((a + w : Nat) : Int) + m) = ((a + w + m : Nat) : Int) by rw [IntKind.wrap_i64]; omega, IntKind.wrap_i64]; omega)) | exact z8 (congrArg _ (show ((a + min A.length w : Nat) : Int) = IntKind.i64.wrap (vU .u64 (IntKind.u64.wrap (IntKind.i64.wrap ((a : Int) + (b : Int)))) 1) by rw [hv, Nat.min_eq_right (by omega)])))⟩
    · have q : m ≤ a + w := by have := of_decide_eq_false h; simp only [hv] at this; omega
      repeat' first | refine zK ?_ | refine zA ?_ | refine zL [] ?_ | (refine isA ?_; refine zf rfl ?_) | (refine isL ?_; refine zU rfl (by kernel_rfl) rfl rfl ?_) | (refine zb rfl ?_; refine zT rfl (by kernel_rfl) rfl rfl ?_) | refine zD ?_ | refine zB _ rfl (by kernel_rfl) ?_ | refine zV rfl ?_ | refine zW rfl ?_ | refine zC ?_ | with_reducible refine zO ?_ | refine zH ?_ | refine zI ?_ | (with_reducible first | refine zM ?_ | refine zN ?_ | refine zE ?_ | refine zG ?_ | refine zF ?_) | refine zP ?_
      refine ⟨rfl, yy 1 [0] rfl rfl yZ (by decide) (.cons rfl rfl rfl rfl (zY (zJ _ _)) .nil) (by
        repeat' first | exact zg | refine zZ ?_ ?_ | exact zo | exact le_refl rfl | exact zj rfl rfl | exact z8 (congrArg _ hv.symm) | exact z8 (congrArg _ (show ((a + w + m : Nat) : Int) = IntKind.i64.wrap (IntKind.i64.wrap (vU .u64 (IntKind.u64.wrap (IntKind.i64.wrap ((a : Int) + (b : Int)))) 1) + m) by rw [hv, IntKind.wrap_i64]; omega)) | exact z8 (congrArg _ (show ((a + (w - B.length) : Nat) : Int) = (a : Int) by omega)) | exact z8 (congrArg _ (show ((a + min A.length w : Nat) : Int) = (m : Int) by rw [Nat.min_eq_left (by omega)]; omega)))⟩
  · have ep : IntKind.i64.wrap (((a + w + m : Nat) : Int) - 1) = ((a + w + m - 1 : Nat) : Int) := by rw [IntKind.wrap_i64]; omega
    refine z9 (α := { p : Nat × Nat // CutI A B w p }) (fun p => ⟨((.sl 0 0 L) :: (I a) :: (I m) :: (I b) :: (.fn 64 []) :: .any :: .any :: .any :: .any :: .any :: .any :: .any :: .any :: .any :: .any :: .any :: .any :: .any :: (I ((a + w : Nat) : Int)) :: (I ((a + w + m : Nat) : Int)) :: (I ((a + p.1.1 : Nat) : Int)) :: (I ((a + p.1.2 : Nat) : Int)) :: (I ((a + w + m - 1 : Nat) : Int)) :: .any :: .any :: .any :: .any :: .any :: .any :: .any :: .any :: .any :: .any :: .any :: .any :: .any :: .any :: .any :: .any :: .any :: .any :: .any :: .any :: .any :: .any :: .any :: .any :: .any :: .any :: .any :: .any :: .any :: .any :: .any :: .any :: .any :: .any :: .any :: .any :: .any :: .any :: .any :: .any :: .any :: .any :: .any :: .any :: .any :: .any :: .any :: .any :: .any :: .any :: .any :: .any :: .any :: .any :: .any :: .any :: .any :: .any :: .any :: .any :: .any :: .any :: .any :: .any :: .any :: .any :: .any :: .any :: .any :: .any :: .any :: .any :: .any :: .any :: .any :: .any :: .any :: .any :: .any :: .any :: .any :: .any :: .any :: .any :: .any :: .any :: .any :: .any :: .any :: .any :: .any :: .any :: .any :: .any :: .any :: .any :: .any :: .any :: .any :: .any :: .any :: .any :: .any :: .any :: .any :: .any :: .any :: .any :: .any :: .any :: .any :: .any :: .any :: .any :: .any :: .any :: .any :: .any :: .any :: .any :: .any :: .any :: .any :: .any :: .any :: .any :: .any :: .any :: .any :: .any :: .any :: .any :: .any :: .any :: .any :: .any :: .any :: .any :: .any :: .any :: .any :: .any :: .any :: .any :: .any :: .any :: .any :: .any :: .any :: .any :: .any :: .any :: .any :: .any :: .any :: .any :: .any :: .any :: .any :: .any :: .any :: .any :: .any :: .any :: .any :: .any :: .any :: .any :: .any :: .any :: .any :: .any :: .any :: .any :: .any :: .any :: .any :: .any :: .any :: .any :: .any :: .any :: .any :: .any :: .any :: .any :: .any :: .any :: .any :: .any :: .any :: .any :: .any :: .any :: .any :: .any :: .any :: []), [rwR D], 1⟩) (fun p => p.1.2 - p.1.1) ⟨(w - B.length, min A.length w), cut0 hw⟩ ?_ ?_
    · exact yy 1 [0] rfl rfl yZ (by decide) (.cons rfl rfl rfl rfl (zY (zJ _ _)) .nil) (by
        repeat' first | exact zg | refine zZ ?_ ?_ | exact zo | exact le_refl rfl | exact zj rfl rfl | exact z8 (congrArg _ ep.symm))
    · rintro ⟨⟨i, j⟩, J⟩
      have j1 : w - B.length ≤ i := J.lo
      have j2 : i ≤ j := J.le
      have j3 : j ≤ min A.length w := J.hi
      repeat' first | refine zK ?_ | refine zA ?_ | refine zL [] ?_ | (refine isA ?_; refine zf rfl ?_) | (refine isL ?_; refine zU rfl (by kernel_rfl) rfl rfl ?_) | (refine zb rfl ?_; refine zT rfl (by kernel_rfl) rfl rfl ?_) | refine zD ?_ | refine zB _ rfl (by kernel_rfl) ?_ | refine zV rfl ?_ | refine zW rfl ?_ | refine zC ?_ | with_reducible refine zO ?_ | refine zH ?_ | refine zI ?_ | (with_reducible first | refine zM ?_ | refine zN ?_ | refine zE ?_ | refine zG ?_ | refine zF ?_) | refine zP ?_
      refine zd rfl (fun h => ?_) (fun h => ?_)
      · have hlt : i < j := by have := of_decide_eq_true h; simp only at this; omega
        obtain ⟨k, hk⟩ : ∃ k, k = (i + j) / 2 := ⟨_, rfl⟩
        have k1 : i ≤ k ∧ k < j := by omega
        have hc : IntKind.i64.wrap (vU .u64 (IntKind.u64.wrap (IntKind.i64.wrap (((a + i : Nat) : Int) + ((a + j : Nat) : Int)))) 1) = ((a + k : Nat) : Int) := by
          rw [uk (by omega)]; omega
        have hpc : IntKind.i64.wrap (((a + w + m - 1 : Nat) : Int) - IntKind.i64.wrap (vU .u64 (IntKind.u64.wrap (IntKind.i64.wrap (((a + i : Nat) : Int) + ((a + j : Nat) : Int)))) 1)) = ((a + A.length + (w - 1 - k) : Nat) : Int) := by
          rw [hc, IntKind.wrap_i64]; omega
        obtain ⟨x, hx⟩ : ∃ z, A[k]? = some z := ⟨_, List.getElem?_eq_getElem (by omega)⟩
        obtain ⟨y, hy⟩ : ∃ z, B[w - 1 - k]? = some z := ⟨_, List.getElem?_eq_getElem (by omega)⟩
        have gx := hds k x hx
        have gy := hdb (w - 1 - k) y hy
        repeat' first | refine zK ?_ | refine zA ?_ | refine zL [] ?_ | (refine isA ?_; refine zf rfl ?_) | (refine isL ?_; refine zU rfl (by kernel_rfl) rfl rfl ?_) | (refine zb rfl ?_; refine zT rfl (by kernel_rfl) rfl rfl ?_) | refine zc rfl (xc (n := 1) rfl rfl rfl) rfl ?_ | refine zX rfl (by kernel_rfl) rfl (xc (n := 1) rfl rfl rfl) rfl ?_ | (refine yG (x := .tmp 159) ?_; refine zc rfl (z4 (j := ((a + A.length + (w - 1 - k) : Nat) : Int)) rfl rfl rfl (Nat.zero_le _) rfl (congrArg I hpc) (Int.natCast_nonneg _) (by omega)) rfl ?_) | (refine yF (x := .tmp 159) rfl ?_; refine zX rfl (by kernel_rfl) rfl (z4 (j := ((a + A.length + (w - 1 - k) : Nat) : Int)) rfl rfl rfl (Nat.zero_le _) rfl (congrArg I hpc) (Int.natCast_nonneg _) (by omega)) rfl ?_) | (refine yG (x := .tmp 165) ?_; refine zc rfl (z4 (j := ((a + k : Nat) : Int)) rfl rfl rfl (Nat.zero_le _) rfl (congrArg I hc) (Int.natCast_nonneg _) (by omega)) rfl ?_) | (refine yF (x := .tmp 165) rfl ?_; refine zX rfl (by kernel_rfl) rfl (z4 (j := ((a + k : Nat) : Int)) rfl rfl rfl (Nat.zero_le _) rfl (congrArg I hc) (Int.natCast_nonneg _) (by omega)) rfl ?_) | (refine wT (x := .tmp 163) ?_; refine zc rfl (xF (T := rwT) (i := 0 + (a + A.length + (w - 1 - k))) (z := y) rfl rfl rfl gy) rfl ?_) | (refine wW (x := .tmp 163) rfl ?_; refine zX rfl (by kernel_rfl) rfl (xF (T := rwT) (i := 0 + (a + A.length + (w - 1 - k))) (z := y) rfl rfl rfl gy) rfl ?_) | (refine wT (x := .tmp 167) ?_; refine zc rfl (xF (T := rwT) (i := 0 + (a + k)) (z := x) rfl rfl rfl gx) rfl ?_) | (refine wW (x := .tmp 167) rfl ?_; refine zX rfl (by kernel_rfl) rfl (xF (T := rwT) (i := 0 + (a + k)) (z := x) rfl rfl rfl gx) rfl ?_) | refine zc rfl (wO rfl rfl (xb y x) (.cons (.same rfl) (.cons (.same rfl) .nil)) rfl) rfl ?_ | refine zX rfl (by kernel_rfl) rfl (wO rfl rfl (xb y x) (.cons (.same rfl) (.cons (.same rfl) .nil)) rfl) rfl ?_ | refine zD ?_ | refine zB _ rfl (by kernel_rfl) ?_ | refine zV rfl ?_ | refine zW rfl ?_ | refine zC ?_ | with_reducible refine zO ?_ | refine zH ?_ | refine zI ?_ | (with_reducible first | refine zM ?_ | refine zN ?_ | refine zE ?_ | refine zG ?_ | refine zF ?_) | refine zP ?_
        refine zd rfl (fun p => ?_) (fun p => ?_)
        · have q : leW x y := Classical.byContradiction fun hn => by
            have := xN.2 hn
            simp [this] at p
          repeat' first | refine zK ?_ | refine zA ?_ | refine zL [] ?_ | (refine isA ?_; refine zf rfl ?_) | (refine isL ?_; refine zU rfl (by kernel_rfl) rfl rfl ?_) | (refine zb rfl ?_; refine zT rfl (by kernel_rfl) rfl rfl ?_) | refine zD ?_ | refine zB _ rfl (by kernel_rfl) ?_ | refine zV rfl ?_ | refine zW rfl ?_ | refine zC ?_ | with_reducible refine zO ?_ | refine zH ?_ | refine zI ?_ | (with_reducible first | refine zM ?_ | refine zN ?_ | refine zE ?_ | refine zG ?_ | refine zF ?_) | refine zP ?_
          refine ⟨⟨(k + 1, j), ⟨by simp only; omega, by simp only; omega, j3, fun x' y' _ hx' hy' => ?_, J.hhi⟩⟩, by simp only; omega, ?_⟩
          · simp only [Nat.add_sub_cancel] at hx'
            rw [hx] at hx'
            cases hx'
            rw [show w - (k + 1, j).1 = w - 1 - k by simp only; omega, hy] at hy'
            cases hy'
            exact q
          · exact yy 1 [0] rfl rfl yZ (by decide) (.cons rfl rfl rfl rfl (zY (zJ _ _)) .nil) (by
              repeat' first | exact zg | refine zZ ?_ ?_ | exact zo | exact le_refl rfl | exact zj rfl rfl | exact z8 (congrArg _ (show ((a + (k + 1) : Nat) : Int) = IntKind.i64.wrap (IntKind.i64.wrap (vU .u64 (IntKind.u64.wrap (IntKind.i64.wrap (((a + i : Nat) : Int) + ((a + j : Nat) : Int)))) 1) + 1) by rw [hc, IntKind.wrap_i64]; omega)))
        · have q : leW y x := wd (xN.1 (by simpa using p))
          repeat' first | refine zK ?_ | refine zA ?_ | refine zL [] ?_ | (refine isA ?_; refine zf rfl ?_) | (refine isL ?_; refine zU rfl (by kernel_rfl) rfl rfl ?_) | (refine zb rfl ?_; refine zT rfl (by kernel_rfl) rfl rfl ?_) | refine zD ?_ | refine zB _ rfl (by kernel_rfl) ?_ | refine zV rfl ?_ | refine zW rfl ?_ | refine zC ?_ | with_reducible refine zO ?_ | refine zH ?_ | refine zI ?_ | (with_reducible first | refine zM ?_ | refine zN ?_ | refine zE ?_ | refine zG ?_ | refine zF ?_) | refine zP ?_
          refine ⟨⟨(i, k), ⟨j1, k1.1, by simp only; omega, J.hlo, fun y' x' _ hy' hx' => ?_⟩⟩, by simp only; omega, ?_⟩
          · rw [hx] at hx'
            cases hx'
            rw [hy] at hy'
            cases hy'
            exact q
          · exact yy 1 [0] rfl rfl yZ (by decide) (.cons rfl rfl rfl rfl (zY (zJ _ _)) .nil) (by
              repeat' first | exact zg | refine zZ ?_ ?_ | exact zo | exact le_refl rfl | exact zj rfl rfl | exact z8 (congrArg _ hc.symm))
      · obtain rfl : i = j := by have := of_decide_eq_false h; simp only at this; omega
        obtain ⟨u1, u2, u3, u4⟩ := gp hw hA hB J
        have ea : A.take i ++ A.drop i = A := List.take_append_drop _ _
        have eb : B.take (w - i) ++ B.drop (w - i) = B := List.take_append_drop _ _
        have sA1 : Srt (A.take i) := hA.sublist (List.take_sublist _ _)
        have sA2 : Srt (A.drop i) := hA.sublist (List.drop_sublist _ _)
        have sB1 : Srt (B.take (w - i)) := hB.sublist (List.take_sublist _ _)
        have sB2 : Srt (B.drop (w - i)) := hB.sublist (List.drop_sublist _ _)
        have nA1 : (A.take i).length = i := by simp; omega
        have nA2 : (A.drop i).length = A.length - i := by simp
        have nB1 : (B.take (w - i)).length = w - i := by simp; omega
        have nB2 : (B.drop (w - i)).length = B.length - (w - i) := by simp
        have hD' : D = P ++ A.take i ++ A.drop i ++ B.take (w - i) ++ B.drop (w - i) ++ Q := by
          rw [← hD]; simp only [List.append_assoc]; rw [← List.append_assoc (A.take i), ea, ← List.append_assoc (B.take (w - i)), eb]
        generalize A.take i = A1 at *
        generalize A.drop i = A2 at *
        generalize B.take (w - i) = B1 at *
        generalize B.drop (w - i) = B2 at *
        have ee : IntKind.i64.wrap (((a + w + m : Nat) : Int) - ((a + i : Nat) : Int)) = ((m + (w - i) : Nat) : Int) := by rw [IntKind.wrap_i64]; omega
        have r1 : P ++ A1 ++ A2 ++ B1 ++ B2 ++ Q = P ++ A1 ++ B1 ++ A2 ++ B2 ++ Q ∨ (0 < A2.length ∧ 0 < B1.length) := by
          rcases Nat.eq_zero_or_pos A2.length with h | h
          · left; rw [List.eq_nil_of_length_eq_zero h]; simp
          · rcases Nat.eq_zero_or_pos B1.length with k | k
            · left; rw [List.eq_nil_of_length_eq_zero k]; simp
            · exact Or.inr ⟨h, k⟩
        have dl : P.length = a := ha
        have sl1 := wQ (A1 ++ B1)
        rw [List.length_append] at sl1
        have hLs : L = a + A1.length + A2.length + B1.length + B2.length + Q.length := by omega
        repeat' first | (refine xW 39 ⟨((.sl 0 0 L) :: (I a) :: (I m) :: (I b) :: (.fn 64 []) :: .any :: .any :: .any :: .any :: .any :: .any :: .any :: .any :: .any :: .any :: .any :: .any :: .any :: (I ((a + w : Nat) : Int)) :: .any :: (I ((a + i : Nat) : Int)) :: .any :: .any :: .any :: (I ((m + (w - i) : Nat) : Int)) :: .any :: .any :: .any :: .any :: .any :: .any :: .any :: .any :: .any :: .any :: .any :: .any :: .any :: .any :: .any :: .any :: .any :: .any :: .any :: .any :: .any :: .any :: .any :: .any :: .any :: .any :: .any :: .any :: .any :: .any :: .any :: .any :: .any :: .any :: .any :: .any :: .any :: .any :: .any :: .any :: .any :: .any :: .any :: .any :: .any :: .any :: .any :: .any :: .any :: .any :: .any :: .any :: .any :: .any :: .any :: .any :: .any :: .any :: .any :: .any :: .any :: .any :: .any :: .any :: .any :: .any :: .any :: .any :: .any :: .any :: .any :: .any :: .any :: .any :: .any :: .any :: .any :: .any :: .any :: .any :: .any :: .any :: .any :: .any :: .any :: .any :: .any :: .any :: .any :: .any :: .any :: .any :: .any :: .any :: .any :: .any :: .any :: .any :: .any :: .any :: .any :: .any :: .any :: .any :: .any :: .any :: .any :: .any :: .any :: .any :: .any :: .any :: .any :: .any :: .any :: .any :: .any :: .any :: .any :: .any :: .any :: .any :: .any :: .any :: .any :: .any :: .any :: .any :: .any :: .any :: .any :: .any :: .any :: .any :: .any :: .any :: .any :: .any :: .any :: .any :: .any :: .any :: .any :: .any :: .any :: .any :: .any :: .any :: .any :: .any :: .any :: .any :: .any :: .any :: .any :: .any :: .any :: .any :: .any :: .any :: .any :: .any :: .any :: .any :: .any :: .any :: .any :: .any :: .any :: .any :: .any :: .any :: .any :: .any :: .any :: .any :: .any :: .any :: .any :: .any :: .any :: .any :: .any :: .any :: .any :: .any :: .any :: .any :: .any :: .any :: .any :: .any :: .any :: .any :: .any :: []), [rwR (P ++ A1 ++ B1 ++ A2 ++ B2 ++ Q)], 1⟩ ?_ ?_) | (refine xW 41 ⟨((.sl 0 0 L) :: (I a) :: (I m) :: (I b) :: (.fn 64 []) :: .any :: .any :: .any :: .any :: .any :: .any :: .any :: .any :: .any :: .any :: .any :: .any :: .any :: (I ((a + w : Nat) : Int)) :: .any :: (I ((a + i : Nat) : Int)) :: .any :: .any :: .any :: (I ((m + (w - i) : Nat) : Int)) :: .any :: .any :: .any :: .any :: .any :: .any :: .any :: .any :: .any :: .any :: .any :: .any :: .any :: .any :: .any :: .any :: .any :: .any :: .any :: .any :: .any :: .any :: .any :: .any :: .any :: .any :: .any :: .any :: .any :: .any :: .any :: .any :: .any :: .any :: .any :: .any :: .any :: .any :: .any :: .any :: .any :: .any :: .any :: .any :: .any :: .any :: .any :: .any :: .any :: .any :: .any :: .any :: .any :: .any :: .any :: .any :: .any :: .any :: .any :: .any :: .any :: .any :: .any :: .any :: .any :: .any :: .any :: .any :: .any :: .any :: .any :: .any :: .any :: .any :: .any :: .any :: .any :: .any :: .any :: .any :: .any :: .any :: .any :: .any :: .any :: .any :: .any :: .any :: .any :: .any :: .any :: .any :: .any :: .any :: .any :: .any :: .any :: .any :: .any :: .any :: .any :: .any :: .any :: .any :: .any :: .any :: .any :: .any :: .any :: .any :: .any :: .any :: .any :: .any :: .any :: .any :: .any :: .any :: .any :: .any :: .any :: .any :: .any :: .any :: .any :: .any :: .any :: .any :: .any :: .any :: .any :: .any :: .any :: .any :: .any :: .any :: .any :: .any :: .any :: .any :: .any :: .any :: .any :: .any :: .any :: .any :: .any :: .any :: .any :: .any :: .any :: .any :: .any :: .any :: .any :: .any :: .any :: .any :: .any :: .any :: .any :: .any :: .any :: .any :: .any :: .any :: .any :: .any :: .any :: .any :: .any :: .any :: .any :: .any :: .any :: .any :: .any :: .any :: .any :: .any :: .any :: .any :: .any :: .any :: .any :: .any :: .any :: .any :: .any :: .any :: .any :: .any :: .any :: .any :: .any :: []), [rwR (P ++ yJ (A1 ++ B1) ++ A2 ++ B2 ++ Q)], 1⟩ ?_ ?_) | refine zK ?_ | refine zA ?_ | refine zL [] ?_ | (refine isA ?_; refine zf rfl ?_) | (refine isL ?_; refine zU rfl (by kernel_rfl) rfl rfl ?_) | (refine zb rfl ?_; refine zT rfl (by kernel_rfl) rfl rfl ?_) | refine zD ?_ | refine zB _ rfl (by kernel_rfl) ?_ | refine zV rfl ?_ | refine zW rfl ?_ | refine zC ?_ | with_reducible refine zO ?_ | refine zH ?_ | refine zI ?_ | (with_reducible first | refine zM ?_ | refine zN ?_ | refine zE ?_ | refine zG ?_ | refine zF ?_) | refine zP ?_ | refine zd rfl (fun hbr => ?_) (fun hbr => ?_) | (refine wB ?_; refine yW rfl rfl (fun hbr => ?_) (fun hbr => ?_) <;> (fail_if_success (with_reducible (have hx : true = true := hbr))) <;> (fail_if_success (with_reducible (have hx : false = false := hbr)))) | (refine zb rfl ?_; refine yI rfl rfl rfl rfl (fun hbr => ?_) (fun hbr => ?_) <;> (fail_if_success (with_reducible (have hx : true = true := hbr))) <;> (fail_if_success (with_reducible (have hx : false = false := hbr))))
        · rename_i h1
          have h1 := of_decide_eq_true h1
          have h2 := of_decide_eq_true hbr
          simp only at h1 h2
          rw [ee] at h2
          have c1 := eq (ds := D) (rs := P ++ A1 ++ B1 ++ A2 ++ B2 ++ Q) (L := L) (a := ((a + i : Nat) : Int)) (m := (m : Int)) (b := IntKind.i64.wrap (((a + w + m : Nat) : Int) - ((a + i : Nat) : Int))) (P ++ A1) A2 B1 (B2 ++ Q) (by rw [hD']; simp only [List.append_assoc]) hL.symm hl (by simp only [List.length_append]; omega) (by simp only [List.length_append]; omega) (by rw [ee]; simp only [List.length_append]; omega) (by omega) (by omega) (by simp only [List.append_assoc])
          repeat' first | refine zK ?_ | refine zA ?_ | refine zL [] ?_ | (refine isA ?_; refine zf rfl ?_) | (refine isL ?_; refine zU rfl (by kernel_rfl) rfl rfl ?_) | (refine zb rfl ?_; refine zT rfl (by kernel_rfl) rfl rfl ?_) | (refine zu 132 ?_; refine zc rfl (zn (K := []) (Rs' := [_]) [0] (by decide) rfl c1 (.cons rfl rfl rfl (zJ _ _) (zJ _ _) .nil) (.cons (.sl rfl) (.cons (.same rfl) (.cons (.same rfl) (.cons (.same rfl) (.cons (.same rfl) .nil))))) (fun q hq => by cases hq) rfl) rfl ?_) | (refine zv 132 rfl ?_; refine zX rfl (by kernel_rfl) rfl (zn (K := []) (Rs' := [_]) [0] (by decide) rfl c1 (.cons rfl rfl rfl (zJ _ _) (zJ _ _) .nil) (.cons (.sl rfl) (.cons (.same rfl) (.cons (.same rfl) (.cons (.same rfl) (.cons (.same rfl) .nil))))) (fun q hq => by cases hq) rfl) rfl ?_) | refine zD ?_ | refine zB _ rfl (by kernel_rfl) ?_ | refine zV rfl ?_ | refine zW rfl ?_ | refine zC ?_ | with_reducible refine zO ?_ | refine zH ?_ | refine zI ?_ | (with_reducible first | refine zM ?_ | refine zN ?_ | refine zE ?_ | refine zG ?_ | refine zF ?_) | refine zP ?_
          exact ⟨rfl, yy 1 [0] rfl rfl yZ (by decide) (.cons rfl rfl rfl rfl (zY (zJ _ _)) .nil) (by
            repeat' first | exact zg | refine zZ ?_ ?_ | exact zo | exact le_refl rfl | exact zj rfl rfl | exact z8 (congrArg _ ee.symm))⟩
        · have h2 := of_decide_eq_false hbr
          simp only at h2
          rw [ee] at h2
          have e := r1.resolve_right (fun h => by omega)
          rw [← hD'] at e
          exact ⟨rfl, yy 1 [0] rfl rfl yZ (by decide) (.cons rfl rfl rfl rfl (yh (congrArg rwT.flat e) (zJ _ _)) .nil) (by
            repeat' first | exact zg | refine zZ ?_ ?_ | exact zo | exact le_refl rfl | exact zj rfl rfl | exact z8 (congrArg _ ee.symm))⟩
        · have h2 := of_decide_eq_false hbr
          simp only at h2
          have e := r1.resolve_right (fun h => by omega)
          rw [← hD'] at e
          exact ⟨rfl, yy 1 [0] rfl rfl yZ (by decide) (.cons rfl rfl rfl rfl (yh (congrArg rwT.flat e) (zJ _ _)) .nil) (by
            repeat' first | exact zg | refine zZ ?_ ?_ | exact zo | exact le_refl rfl | exact zj rfl rfl | exact z8 (congrArg _ ee.symm))⟩
        · rename_i h1
          have h1 := of_decide_eq_true h1
          have h2 := of_decide_eq_true hbr
          have c1 := (IH P A1 B1 (A2 ++ B2 ++ Q) (by omega) sA1 sB1 (by omega) (by omega) (by simp only [List.length_append]; omega)).x (ds := P ++ A1 ++ B1 ++ A2 ++ B2 ++ Q) (rs := P ++ yJ (A1 ++ B1) ++ A2 ++ B2 ++ Q) (L := L) (a := (a : Int)) (m := ((a + i : Nat) : Int)) (b := ((a + w : Nat) : Int)) (by simp only [List.append_assoc]) (by simp only [List.length_append]; omega) (by omega) (by simp only [List.length_append]; omega) (by simp only [List.length_append]; omega) (by simp only [List.append_assoc])
          repeat' first | refine zK ?_ | refine zA ?_ | refine zL [] ?_ | (refine isA ?_; refine zf rfl ?_) | (refine isL ?_; refine zU rfl (by kernel_rfl) rfl rfl ?_) | (refine zb rfl ?_; refine zT rfl (by kernel_rfl) rfl rfl ?_) | (refine zu 131 ?_; refine zc rfl (zn (K := []) (Rs' := [_]) [0] (by decide) rfl c1 (.cons rfl rfl rfl (zJ _ _) (zJ _ _) .nil) (.cons (.sl rfl) (.cons (.same rfl) (.cons (.same rfl) (.cons (.same rfl) (.cons (.same rfl) .nil))))) (fun q hq => by cases hq) rfl) rfl ?_) | (refine zv 131 rfl ?_; refine zX rfl (by kernel_rfl) rfl (zn (K := []) (Rs' := [_]) [0] (by decide) rfl c1 (.cons rfl rfl rfl (zJ _ _) (zJ _ _) .nil) (.cons (.sl rfl) (.cons (.same rfl) (.cons (.same rfl) (.cons (.same rfl) (.cons (.same rfl) .nil))))) (fun q hq => by cases hq) rfl) rfl ?_) | refine zD ?_ | refine zB _ rfl (by kernel_rfl) ?_ | refine zV rfl ?_ | refine zW rfl ?_ | refine zC ?_ | with_reducible refine zO ?_ | refine zH ?_ | refine zI ?_ | (with_reducible first | refine zM ?_ | refine zN ?_ | refine zE ?_ | refine zG ?_ | refine zF ?_) | refine zP ?_
          exact ⟨rfl, yy 1 [0] rfl rfl yZ (by decide) (.cons rfl rfl rfl rfl (zY (zJ _ _)) .nil) (by
            repeat' first | exact zg | refine zZ ?_ ?_ | exact zo | exact le_refl rfl | exact zj rfl rfl)⟩
        · have h2 := of_decide_eq_false hbr
          have e := vx sA1 sB1 (by omega)
          exact ⟨rfl, yy 1 [0] rfl rfl yZ (by decide) (.cons rfl rfl rfl rfl (yh (congrArg rwT.flat (show P ++ A1 ++ B1 ++ A2 ++ B2 ++ Q = P ++ yJ (A1 ++ B1) ++ A2 ++ B2 ++ Q by rw [← e]; simp only [List.append_assoc])) (zJ _ _)) .nil) (by
            repeat' first | exact zg | refine zZ ?_ ?_ | exact zo | exact le_refl rfl | exact zj rfl rfl)⟩
        · have h2 := of_decide_eq_false hbr
          have e := vx sA1 sB1 (by omega)
          exact ⟨rfl, yy 1 [0] rfl rfl yZ (by decide) (.cons rfl rfl rfl rfl (yh (congrArg rwT.flat (show P ++ A1 ++ B1 ++ A2 ++ B2 ++ Q = P ++ yJ (A1 ++ B1) ++ A2 ++ B2 ++ Q by rw [← e]; simp only [List.append_assoc])) (zJ _ _)) .nil) (by
            repeat' first | exact zg | refine zZ ?_ ?_ | exact zo | exact le_refl rfl | exact zj rfl rfl)⟩
        · rename_i h1
          have h1 := of_decide_eq_true h1
          have h2 := of_decide_eq_true hbr
          have c1 := (IH (P ++ yJ (A1 ++ B1)) A2 B2 Q (by omega) sA2 sB2 (by omega) (by omega) (by simp only [List.length_append]; omega)).x (ds := P ++ yJ (A1 ++ B1) ++ A2 ++ B2 ++ Q) (rs := P ++ yJ (A ++ B) ++ Q) (L := L) (a := ((a + w : Nat) : Int)) (m := ((m + (w - i) : Nat) : Int)) (b := (b : Int)) rfl (by simp only [List.length_append]; omega) (by simp only [List.length_append]; omega) (by simp only [List.length_append]; omega) (by simp only [List.length_append]; omega) (by rw [← u4]; simp only [List.append_assoc])
          repeat' first | refine zK ?_ | refine zA ?_ | refine zL [] ?_ | (refine isA ?_; refine zf rfl ?_) | (refine isL ?_; refine zU rfl (by kernel_rfl) rfl rfl ?_) | (refine zb rfl ?_; refine zT rfl (by kernel_rfl) rfl rfl ?_) | (refine zu 131 ?_; refine zc rfl (zn (K := []) (Rs' := [_]) [0] (by decide) rfl c1 (.cons rfl rfl rfl (zJ _ _) (zJ _ _) .nil) (.cons (.sl rfl) (.cons (.same rfl) (.cons (.same rfl) (.cons (.same rfl) (.cons (.same rfl) .nil))))) (fun q hq => by cases hq) rfl) rfl ?_) | (refine zv 131 rfl ?_; refine zX rfl (by kernel_rfl) rfl (zn (K := []) (Rs' := [_]) [0] (by decide) rfl c1 (.cons rfl rfl rfl (zJ _ _) (zJ _ _) .nil) (.cons (.sl rfl) (.cons (.same rfl) (.cons (.same rfl) (.cons (.same rfl) (.cons (.same rfl) .nil))))) (fun q hq => by cases hq) rfl) rfl ?_) | exact um 1 [0] yZ (by decide) (.cons rfl rfl rfl rfl (zY (zJ _ _)) .nil) | refine zD ?_ | refine zB _ rfl (by kernel_rfl) ?_ | refine zV rfl ?_ | refine zW rfl ?_ | refine zC ?_ | with_reducible refine zO ?_ | refine zH ?_ | refine zI ?_ | (with_reducible first | refine zM ?_ | refine zN ?_ | refine zE ?_ | refine zG ?_ | refine zF ?_) | refine zP ?_
        · have h2 := of_decide_eq_false hbr
          have e := vx sA2 sB2 (by omega)
          exact um 1 [0] yZ (by decide) (.cons rfl rfl rfl rfl (yh (congrArg rwT.flat (show P ++ yJ (A1 ++ B1) ++ A2 ++ B2 ++ Q = P ++ yJ (A ++ B) ++ Q by rw [← u4, ← e]; simp only [List.append_assoc])) (zJ _ _)) .nil)
        · have h2 := of_decide_eq_false hbr
          have e := vx sA2 sB2 (by omega)
          exact um 1 [0] yZ (by decide) (.cons rfl rfl rfl rfl (yh (congrArg rwT.flat (show P ++ yJ (A1 ++ B1) ++ A2 ++ B2 ++ Q = P ++ yJ (A ++ B) ++ Q by rw [← u4, ← e]; simp only [List.append_assoc])) (zJ _ _)) .nil)
theorem jl : ∀ (N : Nat) (P A B Q : List Rw), A.length + B.length ≤ N → Srt A → Srt B → 0 < A.length → 0 < B.length → (P ++ A ++ B ++ Q).length ≤ 100000000 → lE P A B Q
  | 0, P, A, B, Q, hn, hA, hB, h0, h1, hl => by omega
  | N + 1, P, A, B, Q, hn, hA, hB, h0, h1, hl => by
    rcases Nat.lt_or_ge A.length 2 with hx | hx
    · obtain ⟨x, rfl⟩ := List.length_eq_one_iff.1 (show A.length = 1 by omega)
      exact eY P B Q x hB h1 hl
    · rcases Nat.lt_or_ge B.length 2 with hy | hy
      · obtain ⟨x, rfl⟩ := List.length_eq_one_iff.1 (show B.length = 1 by omega)
        exact eX P A Q x hA hx hl
      · exact eW P A B Q hA hB hx hy hl (fun P' A' B' Q' h => jl N P' A' B' Q' (by omega))
end Go.Proofs.Ytojcojanokhnaaa.Ab
namespace Go.Proofs.Ytojcojanokhnaaa.Ab
open Go.RowKit
theorem lA (xs : List Rw) (a : Nat) (h2 : a ≤ xs.length) (hl : xs.length ≤ 100000000) : zy Go.Proofs.Try.prog 130 [.sl 0 0 xs.length, I a, I a, .fn 64 []] [rwR xs] (.tup []) [rwR xs] true := by
  refine zw [] Go.Proofs.Try.func130 rfl rfl ?_
  simp only [Go.Proofs.Try.ntmps130, List.length_cons, List.length_nil, Nat.reduceAdd, Nat.reduceSub, List.replicate_succ, List.replicate_zero, List.cons_append, List.nil_append]
  repeat' first | refine zK ?_ | refine zA ?_ | refine zL [] ?_ | (refine isA ?_; refine zf rfl ?_) | (refine isL ?_; refine zU rfl (by kernel_rfl) rfl rfl ?_) | (refine zb rfl ?_; refine zT rfl (by kernel_rfl) rfl rfl ?_) | refine zD ?_ | refine zB _ rfl (by kernel_rfl) ?_ | refine zV rfl ?_ | refine zW rfl ?_ | refine zC ?_ | with_reducible refine zO ?_ | refine zH ?_ | refine zI ?_ | (with_reducible first | refine zM ?_ | refine zN ?_ | refine zE ?_ | refine zG ?_ | refine zF ?_) | refine zP ?_
  refine z9 (α := Unit) (fun i => ⟨[.sl 0 0 xs.length, I a, I a, .fn 64 [], .any, .any, .any, .any, I ((a + 1 : Nat) : Int), .any, .any, .any, .any, .any, .any, .any, .any, .any, .any, .any, .any, .any, .any, .any, .any, .any, .any, .any, .any, .any, .any, .any, .any, .any, .any, .any, .any, .any, .any, .any, .any, .any, .any, .any, .any, .any, .any, .any, .any, .any, .any, .any, .any], [rwR xs], 1⟩) (fun i => 0) () ?_ ?_
  · exact yy 1 [0] rfl rfl yZ (by decide) (.cons rfl rfl rfl rfl (zY (zJ _ _)) .nil) (by
      repeat' first | exact zg | refine zZ ?_ ?_ | exact zo | exact le_refl rfl | exact zj rfl rfl | exact z8 (congrArg _ (show ((a + 1 : Nat) : Int) = IntKind.i64.wrap ((a : Int) + 1) by rw [IntKind.wrap_i64]; omega)))
  · rintro ⟨⟩
    repeat' first | refine zK ?_ | refine zA ?_ | refine zL [] ?_ | (refine isA ?_; refine zf rfl ?_) | (refine isL ?_; refine zU rfl (by kernel_rfl) rfl rfl ?_) | (refine zb rfl ?_; refine zT rfl (by kernel_rfl) rfl rfl ?_) | refine zD ?_ | refine zB _ rfl (by kernel_rfl) ?_ | refine zV rfl ?_ | refine zW rfl ?_ | refine zC ?_ | with_reducible refine zO ?_ | refine zH ?_ | refine zI ?_ | (with_reducible first | refine zM ?_ | refine zN ?_ | refine zE ?_ | refine zG ?_ | refine zF ?_) | refine zP ?_
    refine zd rfl (fun h => absurd (of_decide_eq_true h) (by omega)) (fun h => ?_)
    repeat' first | refine zK ?_ | refine zA ?_ | refine zL [] ?_ | (refine isA ?_; refine zf rfl ?_) | (refine isL ?_; refine zU rfl (by kernel_rfl) rfl rfl ?_) | (refine zb rfl ?_; refine zT rfl (by kernel_rfl) rfl rfl ?_) | exact um 1 [0] yZ (by decide) (.cons rfl rfl rfl rfl (zY (zJ _ _)) .nil) | refine zD ?_ | refine zB _ rfl (by kernel_rfl) ?_ | refine zV rfl ?_ | refine zW rfl ?_ | refine zC ?_ | with_reducible refine zO ?_ | refine zH ?_ | refine zI ?_ | (with_reducible first | refine zM ?_ | refine zN ?_ | refine zE ?_ | refine zG ?_ | refine zF ?_) | refine zP ?_
theorem jz {ds rs : List Rw} {L : Nat} {a b : Int} (U X W : List Rw) (hd : ds = U ++ X ++ W) (hL : L = ds.length) (hl : L ≤ 100000000) (ha : a = (U.length : Int)) (hb : b = ((U ++ X).length : Int)) (hr : rs = U ++ yJ X ++ W) :
    zy Go.Proofs.Try.prog 130 [.sl 0 0 L, I a, I b, .fn 64 []] [rwR ds] (.tup []) [rwR rs] true := by
  subst hd hL ha hb hr
  rcases Nat.eq_zero_or_pos X.length with h | h
  · rw [List.eq_nil_of_length_eq_zero h]
    have q := lA (U ++ W) U.length (by simp) (by simp at hl ⊢; omega)
    rw [show yJ ([] : List Rw) = [] from rfl, List.append_nil]
    exact q
  · have q := jy (U ++ X ++ W) U.length (U ++ X).length (by simp; omega) (by simp) hl
    have e : tz (U ++ X ++ W) U.length (U ++ X).length = U ++ yJ X ++ W := by
      unfold tz
      rw [show (U ++ X ++ W).take U.length = U by rw [List.append_assoc]; exact List.take_left' rfl, show (U ++ X ++ W).drop U.length = X ++ W by rw [List.append_assoc]; exact List.drop_left' rfl, show (U ++ X).length - U.length = X.length by simp, show (X ++ W).take X.length = X from List.take_left' rfl, show (U ++ X ++ W).drop (U ++ X).length = W from List.drop_left' rfl, List.append_assoc]
    rw [e] at q
    exact q
structure Bkk (s : Nat) (xs : List Rw) (p : List Rw × List Rw) : Prop where
  f : nN s p.1
  p : (p.1 ++ p.2).Perm xs
theorem Bkk.len {s : Nat} {xs : List Rw} {p : List Rw × List Rw} (h : Bkk s xs p) : p.1.length + p.2.length = xs.length := by
  have := h.p.length_eq
  rw [List.length_append] at this
  exact this
theorem pb (xs : List Rw) (hl : xs.length ≤ 100000000) : zy Go.Proofs.Try.prog 129 [.sl 0 0 xs.length, I xs.length, .fn 64 []] [rwR xs] (.tup []) [rwR (yJ xs)] true := by
  refine zw [] Go.Proofs.Try.func129 rfl rfl ?_
  simp only [Go.Proofs.Try.ntmps129, List.length_cons, List.length_nil, Nat.reduceAdd, Nat.reduceSub, List.replicate_succ, List.replicate_zero, List.cons_append, List.nil_append]
  repeat' first | refine zK ?_ | refine zA ?_ | refine zL [] ?_ | (refine isA ?_; refine zf rfl ?_) | (refine isL ?_; refine zU rfl (by kernel_rfl) rfl rfl ?_) | (refine zb rfl ?_; refine zT rfl (by kernel_rfl) rfl rfl ?_) | refine zD ?_ | refine zB _ rfl (by kernel_rfl) ?_ | refine zV rfl ?_ | refine zW rfl ?_ | refine zC ?_ | with_reducible refine zO ?_ | refine zH ?_ | refine zI ?_ | (with_reducible first | refine zM ?_ | refine zN ?_ | refine zE ?_ | refine zG ?_ | refine zF ?_) | refine zP ?_
  refine z9 (α := { p : List Rw × List Rw // Bkk 20 xs p }) (fun p => ⟨((.sl 0 0 xs.length) :: (I xs.length) :: (.fn 64 []) :: .any :: .any :: .any :: (I 20) :: (I p.1.1.length) :: (I ((p.1.1.length + 20 : Nat) : Int)) :: .any :: .any :: .any :: .any :: .any :: .any :: .any :: .any :: .any :: .any :: .any :: .any :: .any :: .any :: .any :: .any :: .any :: .any :: .any :: .any :: .any :: .any :: .any :: .any :: .any :: .any :: .any :: .any :: .any :: .any :: .any :: .any :: .any :: .any :: .any :: .any :: .any :: .any :: .any :: .any :: .any :: .any :: .any :: .any :: .any :: .any :: .any :: .any :: .any :: .any :: .any :: .any :: .any :: .any :: []), [rwR (p.1.1 ++ p.1.2)], 1⟩) (fun p => p.1.2.length) ⟨([], xs), pQ, .refl _⟩ ?_ ?_
  · exact yy 1 [0] rfl rfl yZ (by decide) (.cons rfl rfl rfl rfl (zY (zJ _ _)) .nil) (by repeat' first | exact zg | refine zZ ?_ ?_ | exact zo | exact le_refl rfl | exact zj rfl rfl | exact zt rfl)
  · rintro ⟨⟨U, V⟩, J⟩
    have j1 : U.length + V.length = xs.length := J.len
    have j2 : (U ++ V).Perm xs := J.p
    have j3 : nN 20 U := J.f
    repeat' first | refine zK ?_ | refine zA ?_ | refine zL [] ?_ | (refine isA ?_; refine zf rfl ?_) | (refine isL ?_; refine zU rfl (by kernel_rfl) rfl rfl ?_) | (refine zb rfl ?_; refine zT rfl (by kernel_rfl) rfl rfl ?_) | refine zD ?_ | refine zB _ rfl (by kernel_rfl) ?_ | refine zV rfl ?_ | refine zW rfl ?_ | refine zC ?_ | with_reducible refine zO ?_ | refine zH ?_ | refine zI ?_ | (with_reducible first | refine zM ?_ | refine zN ?_ | refine zE ?_ | refine zG ?_ | refine zF ?_) | refine zP ?_
    refine zd rfl (fun h => ?_) (fun h => ?_)
    · have hlt : 20 ≤ V.length := by have := of_decide_eq_true h; simp only at this; omega
      have t1 : V.take 20 ++ V.drop 20 = V := List.take_append_drop _ _
      have t2 : (V.take 20).length = 20 := by simp; omega
      have t3 := (yY (V.take 20)).length_eq
      have t4 : (V.drop 20).length = V.length - 20 := by simp
      have c1 := jz (ds := U ++ V) (rs := U ++ yJ (V.take 20) ++ V.drop 20) (L := xs.length) (a := (U.length : Int)) (b := ((U.length + 20 : Nat) : Int)) U (V.take 20) (V.drop 20) (by rw [List.append_assoc, t1]) (by rw [List.length_append]; omega) hl rfl (by rw [List.length_append]; omega) rfl
      repeat' first | refine zK ?_ | refine zA ?_ | refine zL [] ?_ | (refine isA ?_; refine zf rfl ?_) | (refine isL ?_; refine zU rfl (by kernel_rfl) rfl rfl ?_) | (refine zb rfl ?_; refine zT rfl (by kernel_rfl) rfl rfl ?_) | (refine zu 130 ?_; refine zc rfl (zn (K := []) (Rs' := [_]) [0] (by decide) rfl c1 (.cons rfl rfl rfl (zJ _ _) (zJ _ _) .nil) (.cons (.sl rfl) (.cons (.same rfl) (.cons (.same rfl) (.cons (.same rfl) .nil)))) (fun q hq => by cases hq) rfl) rfl ?_) | (refine zv 130 rfl ?_; refine zX rfl (by kernel_rfl) rfl (zn (K := []) (Rs' := [_]) [0] (by decide) rfl c1 (.cons rfl rfl rfl (zJ _ _) (zJ _ _) .nil) (.cons (.sl rfl) (.cons (.same rfl) (.cons (.same rfl) (.cons (.same rfl) .nil)))) (fun q hq => by cases hq) rfl) rfl ?_) | refine zD ?_ | refine zB _ rfl (by kernel_rfl) ?_ | refine zV rfl ?_ | refine zW rfl ?_ | refine zC ?_ | with_reducible refine zO ?_ | refine zH ?_ | refine zI ?_ | (with_reducible first | refine zM ?_ | refine zN ?_ | refine zE ?_ | refine zG ?_ | refine zF ?_) | refine zP ?_
      refine ⟨⟨(U ++ yJ (V.take 20), V.drop 20), s7 j3 (by omega) (xE _), ?_⟩, by simp only; omega, ?_⟩
      · refine List.Perm.trans ?_ j2
        rw [List.append_assoc]
        refine List.Perm.append_left _ ?_
        have := (yY (V.take 20)).append_right (V.drop 20)
        rw [t1] at this
        exact this
      · exact yy 1 [0] rfl rfl yZ (by decide) (.cons rfl rfl rfl rfl (zY (zJ _ _)) .nil) (by
          repeat' first | exact zg | refine zZ ?_ ?_ | exact zo | exact le_refl rfl | exact zj rfl rfl | exact z8 (congrArg _ (show (((U ++ yJ (V.take 20)).length : Nat) : Int) = ((U.length + 20 : Nat) : Int) by rw [List.length_append]; omega)) | exact z8 (congrArg _ (show (((U ++ yJ (V.take 20)).length + 20 : Nat) : Int) = IntKind.i64.wrap (((U.length + 20 : Nat) : Int) + 20) by rw [List.length_append, IntKind.wrap_i64]; omega)))
    · have hge : V.length < 20 := by have := of_decide_eq_false h; simp only at this; omega
      have t3 := (yY V).length_eq
      have c1 := jz (ds := U ++ V) (rs := U ++ yJ V) (L := xs.length) (a := (U.length : Int)) (b := (xs.length : Int)) U V [] (by simp) (by rw [List.length_append]; omega) hl rfl (by rw [List.length_append]; omega) (by simp)
      have b1 : Blk 20 (U ++ yJ V) := tD j3 (by omega) (xE _)
      have p1 : (U ++ yJ V).Perm xs := ((yY V).append_left U).trans j2
      repeat' first | refine zK ?_ | refine zA ?_ | refine zL [] ?_ | (refine isA ?_; refine zf rfl ?_) | (refine isL ?_; refine zU rfl (by kernel_rfl) rfl rfl ?_) | (refine zb rfl ?_; refine zT rfl (by kernel_rfl) rfl rfl ?_) | (refine zu 130 ?_; refine zc rfl (zn (K := []) (Rs' := [_]) [0] (by decide) rfl c1 (.cons rfl rfl rfl (zJ _ _) (zJ _ _) .nil) (.cons (.sl rfl) (.cons (.same rfl) (.cons (.same rfl) (.cons (.same rfl) .nil)))) (fun q hq => by cases hq) rfl) rfl ?_) | (refine zv 130 rfl ?_; refine zX rfl (by kernel_rfl) rfl (zn (K := []) (Rs' := [_]) [0] (by decide) rfl c1 (.cons rfl rfl rfl (zJ _ _) (zJ _ _) .nil) (.cons (.sl rfl) (.cons (.same rfl) (.cons (.same rfl) (.cons (.same rfl) .nil)))) (fun q hq => by cases hq) rfl) rfl ?_) | refine zD ?_ | refine zB _ rfl (by kernel_rfl) ?_ | refine zV rfl ?_ | refine zW rfl ?_ | refine zC ?_ | with_reducible refine zO ?_ | refine zH ?_ | refine zI ?_ | (with_reducible first | refine zM ?_ | refine zN ?_ | refine zE ?_ | refine zG ?_ | refine zF ?_) | refine zP ?_
      refine z9 (α := { p : Nat × List Rw // 20 ≤ p.1 ∧ Blk p.1 p.2 ∧ p.2.Perm xs }) (fun p => ⟨((.sl 0 0 xs.length) :: (I xs.length) :: (.fn 64 []) :: .any :: .any :: .any :: (I p.1.1) :: .any :: .any :: .any :: .any :: .any :: .any :: .any :: .any :: .any :: .any :: .any :: .any :: .any :: .any :: .any :: .any :: .any :: .any :: .any :: .any :: .any :: .any :: .any :: .any :: .any :: .any :: .any :: .any :: .any :: .any :: .any :: .any :: .any :: .any :: .any :: .any :: .any :: .any :: .any :: .any :: .any :: .any :: .any :: .any :: .any :: .any :: .any :: .any :: .any :: .any :: .any :: .any :: .any :: .any :: .any :: .any :: []), [rwR p.1.2], 1⟩) (fun p => xs.length - p.1.1) ⟨(20, U ++ yJ V), Nat.le_refl _, b1, p1⟩ ?_ ?_
      · exact yy 1 [0] rfl rfl yZ (by decide) (.cons rfl rfl rfl rfl (zY (zJ _ _)) .nil) (by repeat' first | exact zg | refine zZ ?_ ?_ | exact zo | exact le_refl rfl | exact zj rfl rfl | exact zt rfl)
      · rintro ⟨⟨s, ys⟩, k1, k2, k3⟩
        simp only at k1 k2 k3
        have yl := k3.length_eq
        repeat' first | refine zK ?_ | refine zA ?_ | refine zL [] ?_ | (refine isA ?_; refine zf rfl ?_) | (refine isL ?_; refine zU rfl (by kernel_rfl) rfl rfl ?_) | (refine zb rfl ?_; refine zT rfl (by kernel_rfl) rfl rfl ?_) | refine zD ?_ | refine zB _ rfl (by kernel_rfl) ?_ | refine zV rfl ?_ | refine zW rfl ?_ | refine zC ?_ | with_reducible refine zO ?_ | refine zH ?_ | refine zI ?_ | (with_reducible first | refine zM ?_ | refine zN ?_ | refine zE ?_ | refine zG ?_ | refine zF ?_) | refine zP ?_
        refine zd rfl (fun h => ?_) (fun h => ?_)
        · have hlt : s < xs.length := by have := of_decide_eq_true h; simp only at this; omega
          have e2 : IntKind.i64.wrap (2 * (s : Int)) = ((2 * s : Nat) : Int) := by rw [IntKind.wrap_i64]; omega
          have e2' : IntKind.i64.wrap ((s : Int) * 2) = ((2 * s : Nat) : Int) := by rw [IntKind.wrap_i64]; omega
          repeat' first | refine zK ?_ | refine zA ?_ | refine zL [] ?_ | (refine isA ?_; refine zf rfl ?_) | (refine isL ?_; refine zU rfl (by kernel_rfl) rfl rfl ?_) | (refine zb rfl ?_; refine zT rfl (by kernel_rfl) rfl rfl ?_) | refine zD ?_ | refine zB _ rfl (by kernel_rfl) ?_ | refine zV rfl ?_ | refine zW rfl ?_ | refine zC ?_ | with_reducible refine zO ?_ | refine zH ?_ | refine zI ?_ | (with_reducible first | refine zM ?_ | refine zN ?_ | refine zE ?_ | refine zG ?_ | refine zF ?_) | refine zP ?_
          refine z9 (α := { p : List Rw × List Rw // Bkk (2 * s) xs p ∧ Blk s p.2 }) (fun p => ⟨((.sl 0 0 xs.length) :: (I xs.length) :: (.fn 64 []) :: .any :: .any :: .any :: (I s) :: (I p.1.1.length) :: (I ((p.1.1.length + 2 * s : Nat) : Int)) :: .any :: .any :: .any :: .any :: .any :: .any :: .any :: .any :: .any :: .any :: .any :: .any :: .any :: .any :: .any :: .any :: .any :: .any :: .any :: .any :: .any :: .any :: .any :: .any :: .any :: .any :: .any :: .any :: .any :: .any :: .any :: .any :: .any :: .any :: .any :: .any :: .any :: .any :: .any :: .any :: .any :: .any :: .any :: .any :: .any :: .any :: .any :: .any :: .any :: .any :: .any :: .any :: .any :: .any :: []), [rwR (p.1.1 ++ p.1.2)], 1⟩) (fun p => p.1.2.length) ⟨([], ys), ⟨pQ, k3⟩, k2⟩ ?_ ?_
          · exact yy 1 [0] rfl rfl yZ (by decide) (.cons rfl rfl rfl rfl (zY (zJ _ _)) .nil) (by
              repeat' first | exact zg | refine zZ ?_ ?_ | exact zo | exact le_refl rfl | exact zj rfl rfl | exact z8 (congrArg _ (show (((([] : List Rw).length + 2 * s : Nat)) : Int) = IntKind.i64.wrap (2 * (s : Int)) by rw [e2]; simp)))
          · rintro ⟨⟨U, V⟩, J, j4⟩
            have j1 : U.length + V.length = xs.length := J.len
            have j2 : (U ++ V).Perm xs := J.p
            have j3 : nN (2 * s) U := J.f
            simp only at j4
            have ea : IntKind.i64.wrap ((U.length : Int) + s) = ((U.length + s : Nat) : Int) := by rw [IntKind.wrap_i64]; omega
            repeat' first | refine zK ?_ | refine zA ?_ | refine zL [] ?_ | (refine isA ?_; refine zf rfl ?_) | (refine isL ?_; refine zU rfl (by kernel_rfl) rfl rfl ?_) | (refine zb rfl ?_; refine zT rfl (by kernel_rfl) rfl rfl ?_) | refine zD ?_ | refine zB _ rfl (by kernel_rfl) ?_ | refine zV rfl ?_ | refine zW rfl ?_ | refine zC ?_ | with_reducible refine zO ?_ | refine zH ?_ | refine zI ?_ | (with_reducible first | refine zM ?_ | refine zN ?_ | refine zE ?_ | refine zG ?_ | refine zF ?_) | refine zP ?_
            refine zd rfl (fun h => ?_) (fun h => ?_)
            · have hle : 2 * s ≤ V.length := by have := of_decide_eq_true h; simp only at this; omega
              obtain ⟨X, Y, Z, rfl, hX, hY, sX, sY, hZ⟩ := fD (by omega) j4 hle
              simp only [List.length_append] at j1
              have t3 := (yY (X ++ Y)).length_eq
              rw [List.length_append] at t3
              have c1 := (jl _ U X Y Z (Nat.le_refl _) sX sY (by omega) (by omega) (by simp only [List.length_append]; omega)).x (ds := U ++ (X ++ Y ++ Z)) (rs := U ++ yJ (X ++ Y) ++ Z) (L := xs.length) (a := (U.length : Int)) (m := IntKind.i64.wrap ((U.length : Int) + s)) (b := ((U.length + 2 * s : Nat) : Int)) (by simp only [List.append_assoc]) (by simp only [List.length_append]; omega) rfl (by rw [ea, List.length_append]; omega) (by simp only [List.length_append]; omega) rfl
              repeat' first | refine zK ?_ | refine zA ?_ | refine zL [] ?_ | (refine isA ?_; refine zf rfl ?_) | (refine isL ?_; refine zU rfl (by kernel_rfl) rfl rfl ?_) | (refine zb rfl ?_; refine zT rfl (by kernel_rfl) rfl rfl ?_) | (refine zu 131 ?_; refine zc rfl (zn (K := []) (Rs' := [_]) [0] (by decide) rfl c1 (.cons rfl rfl rfl (zJ _ _) (zJ _ _) .nil) (.cons (.sl rfl) (.cons (.same rfl) (.cons (.same rfl) (.cons (.same rfl) (.cons (.same rfl) .nil))))) (fun q hq => by cases hq) rfl) rfl ?_) | (refine zv 131 rfl ?_; refine zX rfl (by kernel_rfl) rfl (zn (K := []) (Rs' := [_]) [0] (by decide) rfl c1 (.cons rfl rfl rfl (zJ _ _) (zJ _ _) .nil) (.cons (.sl rfl) (.cons (.same rfl) (.cons (.same rfl) (.cons (.same rfl) (.cons (.same rfl) .nil))))) (fun q hq => by cases hq) rfl) rfl ?_) | refine zD ?_ | refine zB _ rfl (by kernel_rfl) ?_ | refine zV rfl ?_ | refine zW rfl ?_ | refine zC ?_ | with_reducible refine zO ?_ | refine zH ?_ | refine zI ?_ | (with_reducible first | refine zM ?_ | refine zN ?_ | refine zE ?_ | refine zG ?_ | refine zF ?_) | refine zP ?_
              refine ⟨⟨(U ++ yJ (X ++ Y), Z), ⟨s7 j3 (by omega) (xE _), ?_⟩, hZ⟩, by simp only [List.length_append]; omega, ?_⟩
              · refine List.Perm.trans ?_ j2
                simp only
                rw [List.append_assoc]
                exact List.Perm.append_left _ ((yY (X ++ Y)).append_right Z)
              · exact yy 1 [0] rfl rfl yZ (by decide) (.cons rfl rfl rfl rfl (zY (zJ _ _)) .nil) (by
                  repeat' first | exact zg | refine zZ ?_ ?_ | exact zo | exact le_refl rfl | exact zj rfl rfl | exact z8 (congrArg _ (show (((U ++ yJ (X ++ Y)).length : Nat) : Int) = ((U.length + 2 * s : Nat) : Int) by rw [List.length_append]; omega)) | exact z8 (congrArg _ (show (((U ++ yJ (X ++ Y)).length + 2 * s : Nat) : Int) = IntKind.i64.wrap (((U.length + 2 * s : Nat) : Int) + IntKind.i64.wrap (2 * (s : Int))) by rw [List.length_append, e2, IntKind.wrap_i64]; omega)))
            · have hge : V.length < 2 * s := by have := of_decide_eq_false h; simp only at this; omega
              repeat' first | refine zK ?_ | refine zA ?_ | refine zL [] ?_ | (refine isA ?_; refine zf rfl ?_) | (refine isL ?_; refine zU rfl (by kernel_rfl) rfl rfl ?_) | (refine zb rfl ?_; refine zT rfl (by kernel_rfl) rfl rfl ?_) | refine zD ?_ | refine zB _ rfl (by kernel_rfl) ?_ | refine zV rfl ?_ | refine zW rfl ?_ | refine zC ?_ | with_reducible refine zO ?_ | refine zH ?_ | refine zI ?_ | (with_reducible first | refine zM ?_ | refine zN ?_ | refine zE ?_ | refine zG ?_ | refine zF ?_) | refine zP ?_
              refine zd rfl (fun h2 => ?_) (fun h2 => ?_)
              · have hlt2 : s < V.length := by have := of_decide_eq_true h2; simp only [ea] at this; omega
                obtain ⟨X, Y, rfl, hX, sX, sY, hY⟩ := gF j4 hlt2 hge
                simp only [List.length_append] at j1 hge
                have t3 := (yY (X ++ Y)).length_eq
                rw [List.length_append] at t3
                have c1 := (jl _ U X Y [] (Nat.le_refl _) sX sY (by omega) (by omega) (by simp only [List.length_append, List.length_nil]; omega)).x (ds := U ++ (X ++ Y)) (rs := U ++ yJ (X ++ Y)) (L := xs.length) (a := (U.length : Int)) (m := IntKind.i64.wrap ((U.length : Int) + s)) (b := (xs.length : Int)) (by simp only [List.append_assoc, List.append_nil]) (by simp only [List.length_append]; omega) rfl (by rw [ea, List.length_append]; omega) (by simp only [List.length_append]; omega) (by simp only [List.append_nil])
                repeat' first | refine zK ?_ | refine zA ?_ | refine zL [] ?_ | (refine isA ?_; refine zf rfl ?_) | (refine isL ?_; refine zU rfl (by kernel_rfl) rfl rfl ?_) | (refine zb rfl ?_; refine zT rfl (by kernel_rfl) rfl rfl ?_) | (refine zu 131 ?_; refine zc rfl (zn (K := []) (Rs' := [_]) [0] (by decide) rfl c1 (.cons rfl rfl rfl (zJ _ _) (zJ _ _) .nil) (.cons (.sl rfl) (.cons (.same rfl) (.cons (.same rfl) (.cons (.same rfl) (.cons (.same rfl) .nil))))) (fun q hq => by cases hq) rfl) rfl ?_) | (refine zv 131 rfl ?_; refine zX rfl (by kernel_rfl) rfl (zn (K := []) (Rs' := [_]) [0] (by decide) rfl c1 (.cons rfl rfl rfl (zJ _ _) (zJ _ _) .nil) (.cons (.sl rfl) (.cons (.same rfl) (.cons (.same rfl) (.cons (.same rfl) (.cons (.same rfl) .nil))))) (fun q hq => by cases hq) rfl) rfl ?_) | refine zD ?_ | refine zB _ rfl (by kernel_rfl) ?_ | refine zV rfl ?_ | refine zW rfl ?_ | refine zC ?_ | with_reducible refine zO ?_ | refine zH ?_ | refine zI ?_ | (with_reducible first | refine zM ?_ | refine zN ?_ | refine zE ?_ | refine zG ?_ | refine zF ?_) | refine zP ?_
                refine ⟨⟨(2 * s, U ++ yJ (X ++ Y)), by simp only; omega, tD j3 (by omega) (xE _), ((yY _).append_left U).trans j2⟩, by simp only; omega, ?_⟩
                exact yy 1 [0] rfl rfl yZ (by decide) (.cons rfl rfl rfl rfl (zY (zJ _ _)) .nil) (by
                  repeat' first | exact zg | refine zZ ?_ ?_ | exact zo | exact le_refl rfl | exact zj rfl rfl | exact z8 (congrArg _ e2'.symm))
              · have hge2 : V.length ≤ s := by have := of_decide_eq_false h2; simp only [ea] at this; omega
                repeat' first | refine zK ?_ | refine zA ?_ | refine zL [] ?_ | (refine isA ?_; refine zf rfl ?_) | (refine isL ?_; refine zU rfl (by kernel_rfl) rfl rfl ?_) | (refine zb rfl ?_; refine zT rfl (by kernel_rfl) rfl rfl ?_) | refine zD ?_ | refine zB _ rfl (by kernel_rfl) ?_ | refine zV rfl ?_ | refine zW rfl ?_ | refine zC ?_ | with_reducible refine zO ?_ | refine zH ?_ | refine zI ?_ | (with_reducible first | refine zM ?_ | refine zN ?_ | refine zE ?_ | refine zG ?_ | refine zF ?_) | refine zP ?_
                refine ⟨⟨(2 * s, U ++ V), by simp only; omega, tD j3 (by omega) (tk j4 hge2), j2⟩, by simp only; omega, ?_⟩
                exact yy 1 [0] rfl rfl yZ (by decide) (.cons rfl rfl rfl rfl (zY (zJ _ _)) .nil) (by
                  repeat' first | exact zg | refine zZ ?_ ?_ | exact zo | exact le_refl rfl | exact zj rfl rfl | exact z8 (congrArg _ e2'.symm))
        · have hge : xs.length ≤ s := by have := of_decide_eq_false h; simp only at this; omega
          have e : ys = yJ xs := wb (tk k2 (by omega)) k3
          repeat' first | refine zK ?_ | refine zA ?_ | refine zL [] ?_ | (refine isA ?_; refine zf rfl ?_) | (refine isL ?_; refine zU rfl (by kernel_rfl) rfl rfl ?_) | (refine zb rfl ?_; refine zT rfl (by kernel_rfl) rfl rfl ?_) | exact um 1 [0] yZ (by decide) (.cons rfl rfl rfl rfl (yh (congrArg rwT.flat e) (zJ _ _)) .nil) | refine zD ?_ | refine zB _ rfl (by kernel_rfl) ?_ | refine zV rfl ?_ | refine zW rfl ?_ | refine zC ?_ | with_reducible refine zO ?_ | refine zH ?_ | refine zI ?_ | (with_reducible first | refine zM ?_ | refine zN ?_ | refine zE ?_ | refine zG ?_ | refine zF ?_) | refine zP ?_
theorem zy.args {P : Program} {f : FuncId} {cargs cargs' : List V} {hs : List Reg} {r : V} {hs' : List Reg} {al : Bool} (h : zy P f cargs hs r hs' al) (hl : cargs'.length = cargs.length) (ha : ∀ A w φ g, zx A w φ cargs' g → zx A w φ cargs g) : zy P f cargs' hs r hs' al :=
  fun A φ w xs hok hr hs => h A φ w xs hok (ha _ _ _ _ hr) (hs.trans hl)
theorem gt (xs : List Rw) (hl : xs.length ≤ 100000000) : zy Go.Proofs.Try.prog 128 [.sl 0 0 xs.length, .fn 64 []] [rwR xs] (.tup []) [rwR (yJ xs)] true := by
  refine zw [] Go.Proofs.Try.func128 rfl rfl ?_
  simp only [Go.Proofs.Try.ntmps128, List.length_cons, List.length_nil, Nat.reduceAdd, Nat.reduceSub, List.replicate_succ, List.replicate_zero, List.cons_append, List.nil_append]
  repeat' first | refine zK ?_ | refine zA ?_ | refine zL [] ?_ | (refine isA ?_; refine zf rfl ?_) | (refine isL ?_; refine zU rfl (by kernel_rfl) rfl rfl ?_) | (refine zb rfl ?_; refine zT rfl (by kernel_rfl) rfl rfl ?_) | (refine zu 129 ?_; refine zc rfl (zn (K := []) (Rs' := [_]) [0] (by decide) rfl (pb xs hl) (.cons rfl rfl rfl (zJ _ _) (zJ _ _) .nil) (.cons (.sl rfl) (.cons (.same rfl) (.cons (.same rfl) .nil))) (fun q hq => by cases hq) rfl) rfl ?_) | (refine zv 129 rfl ?_; refine zX rfl (by kernel_rfl) rfl (zn (K := []) (Rs' := [_]) [0] (by decide) rfl (pb xs hl) (.cons rfl rfl rfl (zJ _ _) (zJ _ _) .nil) (.cons (.sl rfl) (.cons (.same rfl) (.cons (.same rfl) .nil))) (fun q hq => by cases hq) rfl) rfl ?_) | exact um 1 [0] yZ (by decide) (.cons rfl rfl rfl rfl (zY (zJ _ _)) .nil) | refine zD ?_ | refine zB _ rfl (by kernel_rfl) ?_ | refine zV rfl ?_ | refine zW rfl ?_ | refine zC ?_ | with_reducible refine zO ?_ | refine zH ?_ | refine zI ?_ | (with_reducible first | refine zM ?_ | refine zN ?_ | refine zE ?_ | refine zG ?_ | refine zF ?_) | refine zP ?_
theorem mK (xs : List Rw) (hl : xs.length ≤ 100000000) : zy Go.Proofs.Try.prog 128 [.sl 0 0 xs.length, .k (.func (.func 64) #[] #[])] [rwR xs] (.tup []) [rwR (yJ xs)] true :=
  (gt xs hl).args rfl fun A w φ g h => by
    simp only [zx, Rel] at h ⊢
    obtain ⟨h1, ⟨y, h2, rfl⟩, _⟩ := h
    exact ⟨h1, ⟨_, h2, #[], rfl, rfl, trivial⟩, trivial⟩
theorem mN (xs : List Rw) (hl : xs.length ≤ 100000000) : zy Go.Proofs.Try.prog 122 [rwL xs] [] (.sl 0 0 (yJ xs).length) [rwR (yJ xs)] false := by
  have e := wQ xs
  rw [e]
  refine zw [2] Go.Proofs.Try.func122 rfl rfl ?_
  simp only [Go.Proofs.Try.ntmps122, List.length_cons, List.length_nil, Nat.reduceAdd, Nat.reduceSub, List.replicate_succ, List.replicate_zero, List.cons_append, List.nil_append]
  repeat' first | refine zK ?_ | refine zA ?_ | refine zL [] ?_ | (refine isA ?_; refine zf rfl ?_) | (refine isL ?_; refine zU rfl (by kernel_rfl) rfl rfl ?_) | (refine zb rfl ?_; refine zT rfl (by kernel_rfl) rfl rfl ?_) | (refine zu 114 ?_; refine zc rfl (yd rfl (wM xs (by omega)) (.cons (.same rfl) .nil) (fun q hq => by simp at hq; subst hq; exact zJ _ _) rfl rfl) rfl ?_) | (refine zv 114 rfl ?_; refine zX rfl (by kernel_rfl) rfl (yd rfl (wM xs (by omega)) (.cons (.same rfl) .nil) (fun q hq => by simp at hq; subst hq; exact zJ _ _) rfl rfl) rfl ?_) | (refine zu 128 ?_; refine zc rfl (zn (K := []) (Rs' := [_]) [0] (by decide) rfl (mK xs hl) (.cons rfl rfl rfl (zJ _ _) (zJ _ _) .nil) (.cons (.sl rfl) (.cons (.same rfl) .nil)) (fun q hq => by cases hq) rfl) rfl ?_) | (refine zv 128 rfl ?_; refine zX rfl (by kernel_rfl) rfl (zn (K := []) (Rs' := [_]) [0] (by decide) rfl (mK xs hl) (.cons rfl rfl rfl (zJ _ _) (zJ _ _) .nil) (.cons (.sl rfl) (.cons (.same rfl) .nil)) (fun q hq => by cases hq) rfl) rfl ?_) | exact kS [0] rfl (wX (by decide) (.cons rfl rfl rfl rfl (zY (zJ _ _)) .nil)) (zj rfl rfl) (Or.inr ⟨rfl, fun q hq => by simp at hq; subst hq; exact ⟨Nat.zero_ne_one, fun _ => (xg _).flatS⟩⟩) | refine zD ?_ | refine zB _ rfl (by kernel_rfl) ?_ | refine zV rfl ?_ | refine zW rfl ?_ | refine zC ?_ | with_reducible refine zO ?_ | refine zH ?_ | refine zI ?_ | (with_reducible first | refine zM ?_ | refine zN ?_ | refine zE ?_ | refine zG ?_ | refine zF ?_) | refine zP ?_
end Go.Proofs.Ytojcojanokhnaaa.Ab
namespace Go.Proofs.Ytojcojanokhnaaa.Ab
open Go.RowKit
theorem sV (xs ys : List Rw) (hl : xs.length ≤ 1000000000) : zy Go.Proofs.Try.prog 81 [rwL xs, rwL ys] [] (B (xO xs ys)) [] false := by
  refine zw [4] Go.Proofs.Try.func81 rfl rfl ?_
  simp only [Go.Proofs.Try.ntmps81, List.length_cons, List.length_nil, Nat.reduceAdd, Nat.reduceSub, List.replicate_succ, List.replicate_zero, List.cons_append, List.nil_append]
  repeat' first | refine zK ?_ | refine zA ?_ | refine zL [] ?_ | (refine isA ?_; refine zf rfl ?_) | (refine isL ?_; refine zU rfl (by kernel_rfl) rfl rfl ?_) | (refine zb rfl ?_; refine zT rfl (by kernel_rfl) rfl rfl ?_) | refine zD ?_ | refine zB _ rfl (by kernel_rfl) ?_ | refine zV rfl ?_ | refine zW rfl ?_ | refine zC ?_ | with_reducible refine zO ?_ | refine zH ?_ | refine zI ?_ | (with_reducible first | refine zM ?_ | refine zN ?_ | refine zE ?_ | refine zG ?_ | refine zF ?_) | refine zP ?_
  refine zd rfl (fun h => ?_) (fun h => ?_)
  · have hne : xs.length ≠ ys.length := by have : ¬ ((xs.length : Int) = ys.length) := (by simpa using h); omega
    repeat' first | refine zK ?_ | refine zA ?_ | refine zL [] ?_ | (refine isA ?_; refine zf rfl ?_) | (refine isL ?_; refine zU rfl (by kernel_rfl) rfl rfl ?_) | (refine zb rfl ?_; refine zT rfl (by kernel_rfl) rfl rfl ?_) | exact yK rfl rfl (by rw [uo hne]) | refine zD ?_ | refine zB _ rfl (by kernel_rfl) ?_ | refine zV rfl ?_ | refine zW rfl ?_ | refine zC ?_ | with_reducible refine zO ?_ | refine zH ?_ | refine zI ?_ | (with_reducible first | refine zM ?_ | refine zN ?_ | refine zE ?_ | refine zG ?_ | refine zF ?_) | refine zP ?_
  have he : xs.length = ys.length := by have : ((xs.length : Int) = ys.length) := (by simpa using h); omega
  repeat' first | refine zK ?_ | refine zA ?_ | refine zL [] ?_ | (refine isA ?_; refine zf rfl ?_) | (refine isL ?_; refine zU rfl (by kernel_rfl) rfl rfl ?_) | (refine zb rfl ?_; refine zT rfl (by kernel_rfl) rfl rfl ?_) | refine zD ?_ | refine zB _ rfl (by kernel_rfl) ?_ | refine zV rfl ?_ | refine zW rfl ?_ | refine zC ?_ | with_reducible refine zO ?_ | refine zH ?_ | refine zI ?_ | (with_reducible first | refine zM ?_ | refine zN ?_ | refine zE ?_ | refine zG ?_ | refine zF ?_) | refine zP ?_
  refine z9 (α := { i : Nat // i ≤ xs.length ∧ xO (xs.drop i) (ys.drop i) = xO xs ys }) (fun i => ⟨[rwL xs, rwL ys, .any, .any, .any, .any, .any, .any, .any, .any, .any, .any, I xs.length, I i.1, .any, .any, .any, .any, .any, .any, .any, .any, .any, .any, .any, .any], [], 0⟩) (fun i => xs.length - i.1) ⟨0, Nat.zero_le _, rfl⟩ ?_ ?_
  · exact w4 rfl (by repeat' first | exact EqS.nil | refine EqS.any ?_ | refine EqS.same rfl ?_)
  · rintro ⟨i, hi, hq⟩
    repeat' first | refine zK ?_ | refine zA ?_ | refine zL [] ?_ | (refine isA ?_; refine zf rfl ?_) | (refine isL ?_; refine zU rfl (by kernel_rfl) rfl rfl ?_) | (refine zb rfl ?_; refine zT rfl (by kernel_rfl) rfl rfl ?_) | refine zD ?_ | refine zB _ rfl (by kernel_rfl) ?_ | refine zV rfl ?_ | refine zW rfl ?_ | refine zC ?_ | with_reducible refine zO ?_ | refine zH ?_ | refine zI ?_ | (with_reducible first | refine zM ?_ | refine zN ?_ | refine zE ?_ | refine zG ?_ | refine zF ?_) | refine zP ?_
    refine zd rfl (fun h => ?_) (fun h => ?_)
    · have hlt : i < xs.length := by simpa using h
      obtain ⟨x, hx⟩ : ∃ z, xs[i]? = some z := ⟨_, List.getElem?_eq_getElem hlt⟩
      obtain ⟨y, hy⟩ : ∃ z, ys[i]? = some z := ⟨_, List.getElem?_eq_getElem (by omega)⟩
      rw [qd hx hy] at hq
      repeat' first | refine zK ?_ | refine zA ?_ | refine zL [] ?_ | (refine isA ?_; refine zf rfl ?_) | (refine isL ?_; refine zU rfl (by kernel_rfl) rfl rfl ?_) | (refine zb rfl ?_; refine zT rfl (by kernel_rfl) rfl rfl ?_) | (refine yG (x := .tmp 16) ?_; refine zc rfl (z5 (t := rwT) (z := x) rfl rfl rfl rfl (Int.natCast_nonneg i) hx) rfl ?_) | (refine yF (x := .tmp 16) rfl ?_; refine zX rfl (by kernel_rfl) rfl (z5 (t := rwT) (z := x) rfl rfl rfl rfl (Int.natCast_nonneg i) hx) rfl ?_) | (refine yG (x := .tmp 20) ?_; refine zc rfl (z5 (t := rwT) (z := y) rfl rfl rfl rfl (Int.natCast_nonneg i) hy) rfl ?_) | (refine yF (x := .tmp 20) rfl ?_; refine zX rfl (by kernel_rfl) rfl (z5 (t := rwT) (z := y) rfl rfl rfl rfl (Int.natCast_nonneg i) hy) rfl ?_) | refine zc rfl (s3 rfl rfl rfl) rfl ?_ | refine zX rfl (by kernel_rfl) rfl (s3 rfl rfl rfl) rfl ?_ | refine zD ?_ | refine zB _ rfl (by kernel_rfl) ?_ | refine zV rfl ?_ | refine zW rfl ?_ | refine zC ?_ | with_reducible refine zO ?_ | refine zH ?_ | refine zI ?_ | (with_reducible first | refine zM ?_ | refine zN ?_ | refine zE ?_ | refine zG ?_ | refine zF ?_) | refine zP ?_
      refine zd rfl (fun h1 => ?_) (fun h1 => ?_)
      · have h2 : rwD x y = false := by simpa using h1
        rw [h2, Bool.false_and] at hq
        repeat' first | refine zK ?_ | refine zA ?_ | refine zL [] ?_ | (refine isA ?_; refine zf rfl ?_) | (refine isL ?_; refine zU rfl (by kernel_rfl) rfl rfl ?_) | (refine zb rfl ?_; refine zT rfl (by kernel_rfl) rfl rfl ?_) | exact yK rfl rfl (congrArg B hq) | refine zD ?_ | refine zB _ rfl (by kernel_rfl) ?_ | refine zV rfl ?_ | refine zW rfl ?_ | refine zC ?_ | with_reducible refine zO ?_ | refine zH ?_ | refine zI ?_ | (with_reducible first | refine zM ?_ | refine zN ?_ | refine zE ?_ | refine zG ?_ | refine zF ?_) | refine zP ?_
      · have h2 : rwD x y = true := by simpa using h1
        rw [h2, Bool.true_and] at hq
        repeat' first | refine zK ?_ | refine zA ?_ | refine zL [] ?_ | (refine isA ?_; refine zf rfl ?_) | (refine isL ?_; refine zU rfl (by kernel_rfl) rfl rfl ?_) | (refine zb rfl ?_; refine zT rfl (by kernel_rfl) rfl rfl ?_) | refine zD ?_ | refine zB _ rfl (by kernel_rfl) ?_ | refine zV rfl ?_ | refine zW rfl ?_ | refine zC ?_ | with_reducible refine zO ?_ | refine zH ?_ | refine zI ?_ | (with_reducible first | refine zM ?_ | refine zN ?_ | refine zE ?_ | refine zG ?_ | refine zF ?_) | refine zP ?_
        refine ⟨⟨i + 1, hlt, hq⟩, by simp only; omega, ?_⟩
        exact w4 rfl (by repeat' first | exact EqS.nil | refine EqS.any ?_ | refine EqS.same rfl ?_ | refine EqS.same (nF (by assumption) (by omega)) ?_)
    · have hge : i = xs.length := by
        have : ¬ ((i : Int) < xs.length) := by simpa using h
        omega
      subst hge
      have hq' : xO xs ys = true := by rw [← hq, List.drop_length, he, List.drop_length]; rfl
      repeat' first | refine zK ?_ | refine zA ?_ | refine zL [] ?_ | (refine isA ?_; refine zf rfl ?_) | (refine isL ?_; refine zU rfl (by kernel_rfl) rfl rfl ?_) | (refine zb rfl ?_; refine zT rfl (by kernel_rfl) rfl rfl ?_) | exact yK rfl rfl (by rw [hq']) | refine zD ?_ | refine zB _ rfl (by kernel_rfl) ?_ | refine zV rfl ?_ | refine zW rfl ?_ | refine zC ?_ | with_reducible refine zO ?_ | refine zH ?_ | refine zI ?_ | (with_reducible first | refine zM ?_ | refine zN ?_ | refine zE ?_ | refine zG ?_ | refine zF ?_) | refine zP ?_
theorem pd (xs ys : List Rw) (hl : xs.length ≤ 1000000000) : zy Go.Proofs.Try.prog 72 [rwL xs, rwL ys] [] (B (xO xs ys)) [] false := by
  refine zw [4] Go.Proofs.Try.func72 rfl rfl ?_
  simp only [Go.Proofs.Try.ntmps72, List.length_cons, List.length_nil, Nat.reduceAdd, Nat.reduceSub, List.replicate_succ, List.replicate_zero, List.cons_append, List.nil_append]
  repeat' first | refine zK ?_ | refine zA ?_ | refine zL [] ?_ | (refine isA ?_; refine zf rfl ?_) | (refine isL ?_; refine zU rfl (by kernel_rfl) rfl rfl ?_) | (refine zb rfl ?_; refine zT rfl (by kernel_rfl) rfl rfl ?_) | refine zD ?_ | refine zB _ rfl (by kernel_rfl) ?_ | refine zV rfl ?_ | refine zW rfl ?_ | refine zC ?_ | with_reducible refine zO ?_ | refine zH ?_ | refine zI ?_ | (with_reducible first | refine zM ?_ | refine zN ?_ | refine zE ?_ | refine zG ?_ | refine zF ?_) | refine zP ?_
  refine zd rfl (fun h => ?_) (fun h => ?_)
  · have hne : xs.length ≠ ys.length := by have : ¬ ((xs.length : Int) = ys.length) := (by simpa using h); omega
    repeat' first | refine zK ?_ | refine zA ?_ | refine zL [] ?_ | (refine isA ?_; refine zf rfl ?_) | (refine isL ?_; refine zU rfl (by kernel_rfl) rfl rfl ?_) | (refine zb rfl ?_; refine zT rfl (by kernel_rfl) rfl rfl ?_) | exact yK rfl rfl (by rw [uo hne]) | refine zD ?_ | refine zB _ rfl (by kernel_rfl) ?_ | refine zV rfl ?_ | refine zW rfl ?_ | refine zC ?_ | with_reducible refine zO ?_ | refine zH ?_ | refine zI ?_ | (with_reducible first | refine zM ?_ | refine zN ?_ | refine zE ?_ | refine zG ?_ | refine zF ?_) | refine zP ?_
  have he : xs.length = ys.length := by have : ((xs.length : Int) = ys.length) := (by simpa using h); omega
  repeat' first | refine zK ?_ | refine zA ?_ | refine zL [] ?_ | (refine isA ?_; refine zf rfl ?_) | (refine isL ?_; refine zU rfl (by kernel_rfl) rfl rfl ?_) | (refine zb rfl ?_; refine zT rfl (by kernel_rfl) rfl rfl ?_) | refine zD ?_ | refine zB _ rfl (by kernel_rfl) ?_ | refine zV rfl ?_ | refine zW rfl ?_ | refine zC ?_ | with_reducible refine zO ?_ | refine zH ?_ | refine zI ?_ | (with_reducible first | refine zM ?_ | refine zN ?_ | refine zE ?_ | refine zG ?_ | refine zF ?_) | refine zP ?_
  refine z9 (α := { i : Nat // i ≤ xs.length ∧ xO (xs.drop i) (ys.drop i) = xO xs ys }) (fun i => ⟨[rwL xs, rwL ys, .any, .any, .any, I i.1, .any, .any, .any, .any, .any, .any, .any, .any, .any, .any, .any, .any, .any, .any, .any, .any, .any, .any, .any, .any], [], 0⟩) (fun i => xs.length - i.1) ⟨0, Nat.zero_le _, rfl⟩ ?_ ?_
  · exact w4 rfl (by repeat' first | exact EqS.nil | refine EqS.any ?_ | refine EqS.same rfl ?_)
  · rintro ⟨i, hi, hq⟩
    repeat' first | refine zK ?_ | refine zA ?_ | refine zL [] ?_ | (refine isA ?_; refine zf rfl ?_) | (refine isL ?_; refine zU rfl (by kernel_rfl) rfl rfl ?_) | (refine zb rfl ?_; refine zT rfl (by kernel_rfl) rfl rfl ?_) | refine zD ?_ | refine zB _ rfl (by kernel_rfl) ?_ | refine zV rfl ?_ | refine zW rfl ?_ | refine zC ?_ | with_reducible refine zO ?_ | refine zH ?_ | refine zI ?_ | (with_reducible first | refine zM ?_ | refine zN ?_ | refine zE ?_ | refine zG ?_ | refine zF ?_) | refine zP ?_
    refine zd rfl (fun h => ?_) (fun h => ?_)
    · have hlt : i < xs.length := by simpa using h
      obtain ⟨x, hx⟩ : ∃ z, xs[i]? = some z := ⟨_, List.getElem?_eq_getElem hlt⟩
      obtain ⟨y, hy⟩ : ∃ z, ys[i]? = some z := ⟨_, List.getElem?_eq_getElem (by omega)⟩
      rw [qd hx hy] at hq
      repeat' first | refine zK ?_ | refine zA ?_ | refine zL [] ?_ | (refine isA ?_; refine zf rfl ?_) | (refine isL ?_; refine zU rfl (by kernel_rfl) rfl rfl ?_) | (refine zb rfl ?_; refine zT rfl (by kernel_rfl) rfl rfl ?_) | (refine yG (x := .tmp 17) ?_; refine zc rfl (z5 (t := rwT) (z := x) rfl rfl rfl rfl (Int.natCast_nonneg i) hx) rfl ?_) | (refine yF (x := .tmp 17) rfl ?_; refine zX rfl (by kernel_rfl) rfl (z5 (t := rwT) (z := x) rfl rfl rfl rfl (Int.natCast_nonneg i) hx) rfl ?_) | (refine yG (x := .tmp 21) ?_; refine zc rfl (z5 (t := rwT) (z := y) rfl rfl rfl rfl (Int.natCast_nonneg i) hy) rfl ?_) | (refine yF (x := .tmp 21) rfl ?_; refine zX rfl (by kernel_rfl) rfl (z5 (t := rwT) (z := y) rfl rfl rfl rfl (Int.natCast_nonneg i) hy) rfl ?_) | refine zc rfl (s3 rfl rfl rfl) rfl ?_ | refine zX rfl (by kernel_rfl) rfl (s3 rfl rfl rfl) rfl ?_ | refine zD ?_ | refine zB _ rfl (by kernel_rfl) ?_ | refine zV rfl ?_ | refine zW rfl ?_ | refine zC ?_ | with_reducible refine zO ?_ | refine zH ?_ | refine zI ?_ | (with_reducible first | refine zM ?_ | refine zN ?_ | refine zE ?_ | refine zG ?_ | refine zF ?_) | refine zP ?_
      refine zd rfl (fun h1 => ?_) (fun h1 => ?_)
      · have h2 : rwD x y = false := by simpa using h1
        rw [h2, Bool.false_and] at hq
        repeat' first | refine zK ?_ | refine zA ?_ | refine zL [] ?_ | (refine isA ?_; refine zf rfl ?_) | (refine isL ?_; refine zU rfl (by kernel_rfl) rfl rfl ?_) | (refine zb rfl ?_; refine zT rfl (by kernel_rfl) rfl rfl ?_) | exact yK rfl rfl (congrArg B hq) | refine zD ?_ | refine zB _ rfl (by kernel_rfl) ?_ | refine zV rfl ?_ | refine zW rfl ?_ | refine zC ?_ | with_reducible refine zO ?_ | refine zH ?_ | refine zI ?_ | (with_reducible first | refine zM ?_ | refine zN ?_ | refine zE ?_ | refine zG ?_ | refine zF ?_) | refine zP ?_
      · have h2 : rwD x y = true := by simpa using h1
        rw [h2, Bool.true_and] at hq
        repeat' first | refine zK ?_ | refine zA ?_ | refine zL [] ?_ | (refine isA ?_; refine zf rfl ?_) | (refine isL ?_; refine zU rfl (by kernel_rfl) rfl rfl ?_) | (refine zb rfl ?_; refine zT rfl (by kernel_rfl) rfl rfl ?_) | refine zD ?_ | refine zB _ rfl (by kernel_rfl) ?_ | refine zV rfl ?_ | refine zW rfl ?_ | refine zC ?_ | with_reducible refine zO ?_ | refine zH ?_ | refine zI ?_ | (with_reducible first | refine zM ?_ | refine zN ?_ | refine zE ?_ | refine zG ?_ | refine zF ?_) | refine zP ?_
        refine ⟨⟨i + 1, hlt, hq⟩, by simp only; omega, ?_⟩
        exact w4 rfl (by repeat' first | exact EqS.nil | refine EqS.any ?_ | refine EqS.same rfl ?_ | refine EqS.same (nF (by assumption) (by omega)) ?_)
    · have hge : i = xs.length := by
        have : ¬ ((i : Int) < xs.length) := by simpa using h
        omega
      subst hge
      have hq' : xO xs ys = true := by rw [← hq, List.drop_length, he, List.drop_length]; rfl
      repeat' first | refine zK ?_ | refine zA ?_ | refine zL [] ?_ | (refine isA ?_; refine zf rfl ?_) | (refine isL ?_; refine zU rfl (by kernel_rfl) rfl rfl ?_) | (refine zb rfl ?_; refine zT rfl (by kernel_rfl) rfl rfl ?_) | exact yK rfl rfl (by rw [hq']) | refine zD ?_ | refine zB _ rfl (by kernel_rfl) ?_ | refine zV rfl ?_ | refine zW rfl ?_ | refine zC ?_ | with_reducible refine zO ?_ | refine zH ?_ | refine zI ?_ | (with_reducible first | refine zM ?_ | refine zN ?_ | refine zE ?_ | refine zG ?_ | refine zF ?_) | refine zP ?_
def eqRs : List Rn → List Rn → Bool
  | [], [] => true
  | x :: xs, y :: ys => xO x y && eqRs xs ys
  | _, _ => false
def eqSo (s t : So) : Bool := xO s.input t.input && (decide (s.pos = t.pos) && (xO s.heap t.heap && (xO s.dfr t.dfr && (xO s.out t.out && (eqRs s.runs t.runs && (decide (s.lp = t.lp) && (decide (s.rp = t.rp) && (decide (s.ph = t.ph) && decide (s.wr = t.wr)))))))))
end Go.Proofs.Ytojcojanokhnaaa.Ab
namespace Go.Proofs.Ytojcojanokhnaaa.Ab
open Go.RowKit
theorem j8 (xs ys : List Rw) (h1 : xs.length ≤ 100000000) (h2 : ys.length ≤ 100000000) : zy Go.Proofs.Try.prog 79 [rwL xs, rwL ys] [] (B (eqB xs ys)) [] false := by
  have s1 := (mN xs h1).frozen (zq rfl)
  have s2 := (mN ys h2).frozen (zq rfl)
  have l1 := wQ xs
  have l2 := wQ ys
  have q := sV (yJ xs) (yJ ys) (by omega)
  refine zw [4] Go.Proofs.Try.func79 rfl rfl ?_
  simp only [Go.Proofs.Try.ntmps79, List.length_cons, List.length_nil, Nat.reduceAdd, Nat.reduceSub, List.replicate_succ, List.replicate_zero, List.cons_append, List.nil_append]
  repeat' first | refine zK ?_ | refine zA ?_ | refine zL [] ?_ | (refine isA ?_; refine zf rfl ?_) | (refine isL ?_; refine zU rfl (by kernel_rfl) rfl rfl ?_) | (refine zb rfl ?_; refine zT rfl (by kernel_rfl) rfl rfl ?_) | refine zD ?_ | refine zB _ rfl (by kernel_rfl) ?_ | refine zV rfl ?_ | refine zW rfl ?_ | refine zC ?_ | with_reducible refine zO ?_ | refine zH ?_ | refine zI ?_ | (with_reducible first | refine zM ?_ | refine zN ?_ | refine zE ?_ | refine zG ?_ | refine zF ?_) | refine zP ?_
  refine yW rfl rfl (fun h => ?_) (fun h => ?_)
  · repeat' first | refine zK ?_ | refine zA ?_ | refine zL [] ?_ | (refine isA ?_; refine zf rfl ?_) | (refine isL ?_; refine zU rfl (by kernel_rfl) rfl rfl ?_) | (refine zb rfl ?_; refine zT rfl (by kernel_rfl) rfl rfl ?_) | (refine zu 122 (x := #[.tmp 11]) ?_; refine zc rfl (zQ rfl s1 (.cons (.same rfl) .nil) rfl) rfl ?_) | (refine zv 122 (x := #[.tmp 11]) rfl ?_; refine zX rfl (by kernel_rfl) rfl (zQ rfl s1 (.cons (.same rfl) .nil) rfl) rfl ?_) | (refine zu 122 (x := #[.tmp 13]) ?_; refine zc rfl (zQ rfl s2 (.cons (.same rfl) .nil) rfl) rfl ?_) | (refine zv 122 (x := #[.tmp 13]) rfl ?_; refine zX rfl (by kernel_rfl) rfl (zQ rfl s2 (.cons (.same rfl) .nil) rfl) rfl ?_) | (refine zu 81 ?_; refine zc rfl (zQ rfl q (.cons (.same rfl) (.cons (.same rfl) .nil)) rfl) rfl ?_) | (refine zv 81 rfl ?_; refine zX rfl (by kernel_rfl) rfl (zQ rfl q (.cons (.same rfl) (.cons (.same rfl) .nil)) rfl) rfl ?_) | exact yK rfl rfl rfl | refine zD ?_ | refine zB _ rfl (by kernel_rfl) ?_ | refine zV rfl ?_ | refine zW rfl ?_ | refine zC ?_ | with_reducible refine zO ?_ | refine zH ?_ | refine zI ?_ | (with_reducible first | refine zM ?_ | refine zN ?_ | refine zE ?_ | refine zG ?_ | refine zF ?_) | refine zP ?_
  · have e : eqB xs ys = false := uo (by rw [l1, l2]; have := of_decide_eq_false h; omega)
    repeat' first | refine zK ?_ | refine zA ?_ | refine zL [] ?_ | (refine isA ?_; refine zf rfl ?_) | (refine isL ?_; refine zU rfl (by kernel_rfl) rfl rfl ?_) | (refine zb rfl ?_; refine zT rfl (by kernel_rfl) rfl rfl ?_) | exact yK rfl rfl (by rw [e]) | refine zD ?_ | refine zB _ rfl (by kernel_rfl) ?_ | refine zV rfl ?_ | refine zW rfl ?_ | refine zC ?_ | with_reducible refine zO ?_ | refine zH ?_ | refine zI ?_ | (with_reducible first | refine zM ?_ | refine zN ?_ | refine zE ?_ | refine zG ?_ | refine zF ?_) | refine zP ?_
end Go.Proofs.Ytojcojanokhnaaa.Ab
namespace Go.Proofs.Ytojcojanokhnaaa.Ab
open Go.RowKit
theorem e8 (xs : List Rw) (hl : xs.length ≤ 1000000000) : zy Go.Proofs.Try.prog 61 [rwL xs] [] (I (nA xs)) [] false := by
  refine zw [2] Go.Proofs.Try.func61 rfl rfl ?_
  simp only [Go.Proofs.Try.ntmps61, List.length_cons, List.length_nil, Nat.reduceAdd, Nat.reduceSub, List.replicate_succ, List.replicate_zero, List.cons_append, List.nil_append]
  repeat' first | refine zK ?_ | refine zA ?_ | refine zL [] ?_ | (refine isA ?_; refine zf rfl ?_) | (refine isL ?_; refine zU rfl (by kernel_rfl) rfl rfl ?_) | (refine zb rfl ?_; refine zT rfl (by kernel_rfl) rfl rfl ?_) | refine zD ?_ | refine zB _ rfl (by kernel_rfl) ?_ | refine zV rfl ?_ | refine zW rfl ?_ | refine zC ?_ | with_reducible refine zO ?_ | refine zH ?_ | refine zI ?_ | (with_reducible first | refine zM ?_ | refine zN ?_ | refine zE ?_ | refine zG ?_ | refine zF ?_) | refine zP ?_
  refine z9 (α := { i : Nat // i ≤ xs.length }) (fun i => ⟨[rwL xs, .any, .any, I (uS xs i.1), .any, .any, rwL xs, I xs.length, I i.1, .any, .any, .any, .any, .any, .any, .any, .any, .any, .any, .any, .any, .any, .any, .any, .any, .any, .any], [], 0⟩) (fun i => xs.length - i.1) ⟨0, Nat.zero_le _⟩ ?_ ?_
  · exact yb [] rfl rfl (by decide) .nil (by repeat' first | exact zg | refine zZ ?_ ?_ | exact zo | exact le_refl rfl | exact zj rfl rfl | exact zt rfl)
  · rintro ⟨i, hi⟩
    repeat' first | refine zK ?_ | refine zA ?_ | refine zL [] ?_ | (refine isA ?_; refine zf rfl ?_) | (refine isL ?_; refine zU rfl (by kernel_rfl) rfl rfl ?_) | (refine zb rfl ?_; refine zT rfl (by kernel_rfl) rfl rfl ?_) | refine zD ?_ | refine zB _ rfl (by kernel_rfl) ?_ | refine zV rfl ?_ | refine zW rfl ?_ | refine zC ?_ | with_reducible refine zO ?_ | refine zH ?_ | refine zI ?_ | (with_reducible first | refine zM ?_ | refine zN ?_ | refine zE ?_ | refine zG ?_ | refine zF ?_) | refine zP ?_
    refine zd rfl (fun h => ?_) (fun h => ?_)
    · have hlt : i < xs.length := by simpa using h
      obtain ⟨x, hx⟩ : ∃ z, xs[i]? = some z := ⟨_, List.getElem?_eq_getElem hlt⟩
      rcases Nat.eq_zero_or_pos i with rfl | hpos
      · have e1 : uS xs (0 + 1) = ((0 : Nat) : Int) := rfl
        repeat' first | refine zK ?_ | refine zA ?_ | refine zL [] ?_ | (refine isA ?_; refine zf rfl ?_) | (refine isL ?_; refine zU rfl (by kernel_rfl) rfl rfl ?_) | (refine zb rfl ?_; refine zT rfl (by kernel_rfl) rfl rfl ?_) | (refine yG (x := .tmp 6) ?_; refine zc rfl (z5 (t := rwT) (z := x) rfl rfl rfl rfl (Int.natCast_nonneg _) hx) rfl ?_) | (refine yF (x := .tmp 6) rfl ?_; refine zX rfl (by kernel_rfl) rfl (z5 (t := rwT) (z := x) rfl rfl rfl rfl (Int.natCast_nonneg _) hx) rfl ?_) | refine zD ?_ | refine zB _ rfl (by kernel_rfl) ?_ | refine zV rfl ?_ | refine zW rfl ?_ | refine zC ?_ | with_reducible refine zO ?_ | refine zH ?_ | refine zI ?_ | (with_reducible first | refine zM ?_ | refine zN ?_ | refine zE ?_ | refine zG ?_ | refine zF ?_) | refine zP ?_
        refine ⟨⟨0 + 1, hlt⟩, by simp only; omega, ?_⟩
        exact yb [] rfl rfl (by decide) .nil (by
          repeat' first | exact zg | refine zZ ?_ ?_ | exact zo | exact le_refl rfl | exact z8 (congrArg _ e1) | exact xI (by assumption) (by omega))
      · obtain ⟨k, y, m1, m2, m3, m4⟩ := tf (xs := xs) (n := i) (by omega) hpos
        have e1 : uS xs (i + 1) = cond (decide (yr x y < 0)) (i : Int) (k : Int) := by
          rw [uS, m1, decide_eq_false (show ¬ ((k : Nat) : Int) < 0 from by have := Int.natCast_nonneg k; omega), cond_false, Int.toNat_natCast, hx, m3]
        refine vu (T := ⟨[rwL xs, .any, .any, I ((k : Nat) : Int), .any, .any, rwL xs, I xs.length, I ((i : Nat) : Int), .any, .any, .any, .any, .any, .any, .any, .any, .any, .any, .any, .any, .any, .any, .any, .any, .any, .any], [], 0⟩) (yb [] rfl rfl (by decide) .nil (by
          repeat' first | exact zg | refine zZ ?_ ?_ | exact zo | exact le_refl rfl | exact z8 (congrArg _ m1.symm))) ?_
        repeat' first | refine zK ?_ | refine zA ?_ | refine zL [] ?_ | (refine isA ?_; refine zf rfl ?_) | (refine isL ?_; refine zU rfl (by kernel_rfl) rfl rfl ?_) | (refine zb rfl ?_; refine zT rfl (by kernel_rfl) rfl rfl ?_) | (refine yG (x := .tmp 6) ?_; refine zc rfl (z5 (t := rwT) (z := x) rfl rfl rfl rfl (Int.natCast_nonneg _) hx) rfl ?_) | (refine yF (x := .tmp 6) rfl ?_; refine zX rfl (by kernel_rfl) rfl (z5 (t := rwT) (z := x) rfl rfl rfl rfl (Int.natCast_nonneg _) hx) rfl ?_) | refine zD ?_ | refine zB _ rfl (by kernel_rfl) ?_ | refine zV rfl ?_ | refine zW rfl ?_ | refine zC ?_ | with_reducible refine zO ?_ | refine zH ?_ | refine zI ?_ | (with_reducible first | refine zM ?_ | refine zN ?_ | refine zE ?_ | refine zG ?_ | refine zF ?_) | refine zP ?_
        refine yI rfl rfl rfl rfl (fun p => absurd (of_decide_eq_true p) (by omega)) (fun p => ?_)
        repeat' first | refine zK ?_ | refine zA ?_ | refine zL [] ?_ | (refine isA ?_; refine zf rfl ?_) | (refine isL ?_; refine zU rfl (by kernel_rfl) rfl rfl ?_) | (refine zb rfl ?_; refine zT rfl (by kernel_rfl) rfl rfl ?_) | (refine yG (x := .tmp 17) ?_; refine zc rfl (z5 (t := rwT) (z := y) rfl rfl rfl rfl (Int.natCast_nonneg _) m3) rfl ?_) | (refine yF (x := .tmp 17) rfl ?_; refine zX rfl (by kernel_rfl) rfl (z5 (t := rwT) (z := y) rfl rfl rfl rfl (Int.natCast_nonneg _) m3) rfl ?_) | (refine zu 64 ?_; refine zc rfl (zQ rfl (xb x y) (.cons (.same rfl) (.cons (.same rfl) .nil)) rfl) rfl ?_) | (refine zv 64 rfl ?_; refine zX rfl (by kernel_rfl) rfl (zQ rfl (xb x y) (.cons (.same rfl) (.cons (.same rfl) .nil)) rfl) rfl ?_) | refine zD ?_ | refine zB _ rfl (by kernel_rfl) ?_ | refine zV rfl ?_ | refine zW rfl ?_ | refine zC ?_ | with_reducible refine zO ?_ | refine zH ?_ | refine zI ?_ | (with_reducible first | refine zM ?_ | refine zN ?_ | refine zE ?_ | refine zG ?_ | refine zF ?_) | refine zP ?_
        refine zd rfl (fun p => ?_) (fun p => ?_)
        · rw [p, cond_true] at e1
          repeat' first | refine zK ?_ | refine zA ?_ | refine zL [] ?_ | (refine isA ?_; refine zf rfl ?_) | (refine isL ?_; refine zU rfl (by kernel_rfl) rfl rfl ?_) | (refine zb rfl ?_; refine zT rfl (by kernel_rfl) rfl rfl ?_) | refine zD ?_ | refine zB _ rfl (by kernel_rfl) ?_ | refine zV rfl ?_ | refine zW rfl ?_ | refine zC ?_ | with_reducible refine zO ?_ | refine zH ?_ | refine zI ?_ | (with_reducible first | refine zM ?_ | refine zN ?_ | refine zE ?_ | refine zG ?_ | refine zF ?_) | refine zP ?_
          refine ⟨⟨i + 1, hlt⟩, by simp only; omega, ?_⟩
          exact yb [] rfl rfl (by decide) .nil (by
            repeat' first | exact zg | refine zZ ?_ ?_ | exact zo | exact le_refl rfl | exact z8 (congrArg _ e1) | exact xI (by assumption) (by omega))
        · rw [p, cond_false] at e1
          repeat' first | refine zK ?_ | refine zA ?_ | refine zL [] ?_ | (refine isA ?_; refine zf rfl ?_) | (refine isL ?_; refine zU rfl (by kernel_rfl) rfl rfl ?_) | (refine zb rfl ?_; refine zT rfl (by kernel_rfl) rfl rfl ?_) | refine zD ?_ | refine zB _ rfl (by kernel_rfl) ?_ | refine zV rfl ?_ | refine zW rfl ?_ | refine zC ?_ | with_reducible refine zO ?_ | refine zH ?_ | refine zI ?_ | (with_reducible first | refine zM ?_ | refine zN ?_ | refine zE ?_ | refine zG ?_ | refine zF ?_) | refine zP ?_
          refine ⟨⟨i + 1, hlt⟩, by simp only; omega, ?_⟩
          exact yb [] rfl rfl (by decide) .nil (by
            repeat' first | exact zg | refine zZ ?_ ?_ | exact zo | exact le_refl rfl | exact z8 (congrArg _ e1) | exact xI (by assumption) (by omega))
    · have hge : i = xs.length := by
        have : ¬ ((i : Int) < xs.length) := by simpa using h
        omega
      subst hge
      repeat' first | refine zK ?_ | refine zA ?_ | refine zL [] ?_ | (refine isA ?_; refine zf rfl ?_) | (refine isL ?_; refine zU rfl (by kernel_rfl) rfl rfl ?_) | (refine zb rfl ?_; refine zT rfl (by kernel_rfl) rfl rfl ?_) | exact yK rfl rfl rfl | refine zD ?_ | refine zB _ rfl (by kernel_rfl) ?_ | refine zV rfl ?_ | refine zW rfl ?_ | refine zC ?_ | with_reducible refine zO ?_ | refine zH ?_ | refine zI ?_ | (with_reducible first | refine zM ?_ | refine zN ?_ | refine zE ?_ | refine zG ?_ | refine zF ?_) | refine zP ?_
theorem eg (xs : List Rw) (hl : xs.length ≤ 1000000000) : zy Go.Proofs.Try.prog 119 [rwL xs] [] (I (nA xs)) [] false := by
  refine zw [2] Go.Proofs.Try.func119 rfl rfl ?_
  simp only [Go.Proofs.Try.ntmps119, List.length_cons, List.length_nil, Nat.reduceAdd, Nat.reduceSub, List.replicate_succ, List.replicate_zero, List.cons_append, List.nil_append]
  repeat' first | refine zK ?_ | refine zA ?_ | refine zL [] ?_ | (refine isA ?_; refine zf rfl ?_) | (refine isL ?_; refine zU rfl (by kernel_rfl) rfl rfl ?_) | (refine zb rfl ?_; refine zT rfl (by kernel_rfl) rfl rfl ?_) | refine zD ?_ | refine zB _ rfl (by kernel_rfl) ?_ | refine zV rfl ?_ | refine zW rfl ?_ | refine zC ?_ | with_reducible refine zO ?_ | refine zH ?_ | refine zI ?_ | (with_reducible first | refine zM ?_ | refine zN ?_ | refine zE ?_ | refine zG ?_ | refine zF ?_) | refine zP ?_
  refine z9 (α := { i : Nat // i ≤ xs.length }) (fun i => ⟨[rwL xs, .any, .any, I (uS xs i.1), I i.1, .any, .any, .any, .any, .any, .any, .any, .any, .any, .any, .any, .any, .any, .any, .any, .any, .any, .any, .any, .any, .any, .any], [], 0⟩) (fun i => xs.length - i.1) ⟨0, Nat.zero_le _⟩ ?_ ?_
  · exact yb [] rfl rfl (by decide) .nil (by repeat' first | exact zg | refine zZ ?_ ?_ | exact zo | exact le_refl rfl | exact zj rfl rfl | exact zt rfl)
  · rintro ⟨i, hi⟩
    repeat' first | refine zK ?_ | refine zA ?_ | refine zL [] ?_ | (refine isA ?_; refine zf rfl ?_) | (refine isL ?_; refine zU rfl (by kernel_rfl) rfl rfl ?_) | (refine zb rfl ?_; refine zT rfl (by kernel_rfl) rfl rfl ?_) | refine zD ?_ | refine zB _ rfl (by kernel_rfl) ?_ | refine zV rfl ?_ | refine zW rfl ?_ | refine zC ?_ | with_reducible refine zO ?_ | refine zH ?_ | refine zI ?_ | (with_reducible first | refine zM ?_ | refine zN ?_ | refine zE ?_ | refine zG ?_ | refine zF ?_) | refine zP ?_
    refine zd rfl (fun h => ?_) (fun h => ?_)
    · have hlt : i < xs.length := by simpa using h
      obtain ⟨x, hx⟩ : ∃ z, xs[i]? = some z := ⟨_, List.getElem?_eq_getElem hlt⟩
      rcases Nat.eq_zero_or_pos i with rfl | hpos
      · have e1 : uS xs (0 + 1) = ((0 : Nat) : Int) := rfl
        repeat' first | refine zK ?_ | refine zA ?_ | refine zL [] ?_ | (refine isA ?_; refine zf rfl ?_) | (refine isL ?_; refine zU rfl (by kernel_rfl) rfl rfl ?_) | (refine zb rfl ?_; refine zT rfl (by kernel_rfl) rfl rfl ?_) | refine zD ?_ | refine zB _ rfl (by kernel_rfl) ?_ | refine zV rfl ?_ | refine zW rfl ?_ | refine zC ?_ | with_reducible refine zO ?_ | refine zH ?_ | refine zI ?_ | (with_reducible first | refine zM ?_ | refine zN ?_ | refine zE ?_ | refine zG ?_ | refine zF ?_) | refine zP ?_
        refine ⟨⟨0 + 1, hlt⟩, by simp only; omega, ?_⟩
        exact yb [] rfl rfl (by decide) .nil (by
          repeat' first | exact zg | refine zZ ?_ ?_ | exact zo | exact le_refl rfl | exact z8 (congrArg _ e1) | exact xI (by assumption) (by omega))
      · obtain ⟨k, y, m1, m2, m3, m4⟩ := tf (xs := xs) (n := i) (by omega) hpos
        have e1 : uS xs (i + 1) = cond (decide (yr x y < 0)) (i : Int) (k : Int) := by
          rw [uS, m1, decide_eq_false (show ¬ ((k : Nat) : Int) < 0 from by have := Int.natCast_nonneg k; omega), cond_false, Int.toNat_natCast, hx, m3]
        refine vu (T := ⟨[rwL xs, .any, .any, I ((k : Nat) : Int), I ((i : Nat) : Int), .any, .any, .any, .any, .any, .any, .any, .any, .any, .any, .any, .any, .any, .any, .any, .any, .any, .any, .any, .any, .any, .any], [], 0⟩) (yb [] rfl rfl (by decide) .nil (by
          repeat' first | exact zg | refine zZ ?_ ?_ | exact zo | exact le_refl rfl | exact z8 (congrArg _ m1.symm))) ?_
        repeat' first | refine zK ?_ | refine zA ?_ | refine zL [] ?_ | (refine isA ?_; refine zf rfl ?_) | (refine isL ?_; refine zU rfl (by kernel_rfl) rfl rfl ?_) | (refine zb rfl ?_; refine zT rfl (by kernel_rfl) rfl rfl ?_) | refine zD ?_ | refine zB _ rfl (by kernel_rfl) ?_ | refine zV rfl ?_ | refine zW rfl ?_ | refine zC ?_ | with_reducible refine zO ?_ | refine zH ?_ | refine zI ?_ | (with_reducible first | refine zM ?_ | refine zN ?_ | refine zE ?_ | refine zG ?_ | refine zF ?_) | refine zP ?_
        refine yI rfl rfl rfl rfl (fun p => absurd (of_decide_eq_true p) (by omega)) (fun p => ?_)
        repeat' first | refine zK ?_ | refine zA ?_ | refine zL [] ?_ | (refine isA ?_; refine zf rfl ?_) | (refine isL ?_; refine zU rfl (by kernel_rfl) rfl rfl ?_) | (refine zb rfl ?_; refine zT rfl (by kernel_rfl) rfl rfl ?_) | (refine yG (x := .tmp 14) ?_; refine zc rfl (z5 (t := rwT) (z := x) rfl rfl rfl rfl (Int.natCast_nonneg _) hx) rfl ?_) | (refine yF (x := .tmp 14) rfl ?_; refine zX rfl (by kernel_rfl) rfl (z5 (t := rwT) (z := x) rfl rfl rfl rfl (Int.natCast_nonneg _) hx) rfl ?_) | (refine yG (x := .tmp 18) ?_; refine zc rfl (z5 (t := rwT) (z := y) rfl rfl rfl rfl (Int.natCast_nonneg _) m3) rfl ?_) | (refine yF (x := .tmp 18) rfl ?_; refine zX rfl (by kernel_rfl) rfl (z5 (t := rwT) (z := y) rfl rfl rfl rfl (Int.natCast_nonneg _) m3) rfl ?_) | (refine zu 68 ?_; refine zc rfl (zQ rfl (xa x y) (.cons (.same rfl) (.cons (.same rfl) .nil)) rfl) rfl ?_) | (refine zv 68 rfl ?_; refine zX rfl (by kernel_rfl) rfl (zQ rfl (xa x y) (.cons (.same rfl) (.cons (.same rfl) .nil)) rfl) rfl ?_) | refine zD ?_ | refine zB _ rfl (by kernel_rfl) ?_ | refine zV rfl ?_ | refine zW rfl ?_ | refine zC ?_ | with_reducible refine zO ?_ | refine zH ?_ | refine zI ?_ | (with_reducible first | refine zM ?_ | refine zN ?_ | refine zE ?_ | refine zG ?_ | refine zF ?_) | refine zP ?_
        refine zd rfl (fun p => ?_) (fun p => ?_)
        · rw [p, cond_true] at e1
          repeat' first | refine zK ?_ | refine zA ?_ | refine zL [] ?_ | (refine isA ?_; refine zf rfl ?_) | (refine isL ?_; refine zU rfl (by kernel_rfl) rfl rfl ?_) | (refine zb rfl ?_; refine zT rfl (by kernel_rfl) rfl rfl ?_) | refine zD ?_ | refine zB _ rfl (by kernel_rfl) ?_ | refine zV rfl ?_ | refine zW rfl ?_ | refine zC ?_ | with_reducible refine zO ?_ | refine zH ?_ | refine zI ?_ | (with_reducible first | refine zM ?_ | refine zN ?_ | refine zE ?_ | refine zG ?_ | refine zF ?_) | refine zP ?_
          refine ⟨⟨i + 1, hlt⟩, by simp only; omega, ?_⟩
          exact yb [] rfl rfl (by decide) .nil (by
            repeat' first | exact zg | refine zZ ?_ ?_ | exact zo | exact le_refl rfl | exact z8 (congrArg _ e1) | exact xI (by assumption) (by omega))
        · rw [p, cond_false] at e1
          repeat' first | refine zK ?_ | refine zA ?_ | refine zL [] ?_ | (refine isA ?_; refine zf rfl ?_) | (refine isL ?_; refine zU rfl (by kernel_rfl) rfl rfl ?_) | (refine zb rfl ?_; refine zT rfl (by kernel_rfl) rfl rfl ?_) | refine zD ?_ | refine zB _ rfl (by kernel_rfl) ?_ | refine zV rfl ?_ | refine zW rfl ?_ | refine zC ?_ | with_reducible refine zO ?_ | refine zH ?_ | refine zI ?_ | (with_reducible first | refine zM ?_ | refine zN ?_ | refine zE ?_ | refine zG ?_ | refine zF ?_) | refine zP ?_
          refine ⟨⟨i + 1, hlt⟩, by simp only; omega, ?_⟩
          exact yb [] rfl rfl (by decide) .nil (by
            repeat' first | exact zg | refine zZ ?_ ?_ | exact zo | exact le_refl rfl | exact z8 (congrArg _ e1) | exact xI (by assumption) (by omega))
    · have hge : i = xs.length := by
        have : ¬ ((i : Int) < xs.length) := by simpa using h
        omega
      subst hge
      repeat' first | refine zK ?_ | refine zA ?_ | refine zL [] ?_ | (refine isA ?_; refine zf rfl ?_) | (refine isL ?_; refine zU rfl (by kernel_rfl) rfl rfl ?_) | (refine zb rfl ?_; refine zT rfl (by kernel_rfl) rfl rfl ?_) | exact yK rfl rfl rfl | refine zD ?_ | refine zB _ rfl (by kernel_rfl) ?_ | refine zV rfl ?_ | refine zW rfl ?_ | refine zC ?_ | with_reducible refine zO ?_ | refine zH ?_ | refine zI ?_ | (with_reducible first | refine zM ?_ | refine zN ?_ | refine zE ?_ | refine zG ?_ | refine zF ?_) | refine zP ?_
theorem mI (xs : List Rw) (k : Nat) (hk : k < xs.length) (hl : xs.length ≤ 100000000) : zy Go.Proofs.Try.prog 62 [rwL xs, I k] [] (.sl 0 0 (xs.take k ++ xs.drop (k + 1)).length) [rwR (xs.take k ++ xs.drop (k + 1))] false := by
  have ew : IntKind.i64.wrap ((k : Int) + 1) = ((k + 1 : Nat) : Int) := by rw [IntKind.wrap_i64]; omega
  refine zw [4] Go.Proofs.Try.func62 rfl rfl ?_
  simp only [Go.Proofs.Try.ntmps62, List.length_cons, List.length_nil, Nat.reduceAdd, Nat.reduceSub, List.replicate_succ, List.replicate_zero, List.cons_append, List.nil_append]
  repeat' first | refine zK ?_ | refine zA ?_ | refine zL [] ?_ | (refine isA ?_; refine zf rfl ?_) | (refine isL ?_; refine zU rfl (by kernel_rfl) rfl rfl ?_) | (refine zb rfl ?_; refine zT rfl (by kernel_rfl) rfl rfl ?_) | (refine uA (x := .tmp 6) ?_; refine zc rfl (yg rfl rfl rfl (by omega)) rfl ?_) | (refine v9 (x := .tmp 6) rfl ?_; refine zX rfl (by kernel_rfl) rfl (yg rfl rfl rfl (by omega)) rfl ?_) | (refine uA (x := .tmp 11) ?_; refine zc rfl (xP (k := k + 1) rfl rfl rfl ew (by omega)) rfl ?_) | (refine v9 (x := .tmp 11) rfl ?_; refine zX rfl (by kernel_rfl) rfl (xP (k := k + 1) rfl rfl rfl ew (by omega)) rfl ?_) | (refine zu 114 ?_; refine zc rfl (yd rfl (wM (xs.take k) (by simp; omega)) (.cons (.same rfl) .nil) (fun q hq => by simp at hq; subst hq; exact zJ _ _) rfl rfl) rfl ?_) | (refine zv 114 rfl ?_; refine zX rfl (by kernel_rfl) rfl (yd rfl (wM (xs.take k) (by simp; omega)) (.cons (.same rfl) .nil) (fun q hq => by simp at hq; subst hq; exact zJ _ _) rfl rfl) rfl ?_) | (refine xU ?_; refine zc rfl (yX (t := rwT) (xs := xs.take k) (ys := xs.drop (k + 1)) rfl rfl rfl rfl (.lst _ _) (by simp; omega) rfl) rfl ?_) | (refine y9 rfl ?_; refine zX rfl (by kernel_rfl) rfl (yX (t := rwT) (xs := xs.take k) (ys := xs.drop (k + 1)) rfl rfl rfl rfl (.lst _ _) (by simp; omega) rfl) rfl ?_) | exact kS [1] rfl (wX (by decide) (.cons rfl rfl rfl rfl (zY (zJ _ _)) .nil)) (zj rfl rfl) (Or.inr ⟨rfl, fun q hq => by simp at hq; subst hq; exact ⟨Nat.zero_ne_one, fun _ => (xg _).flatS⟩⟩) | refine zD ?_ | refine zB _ rfl (by kernel_rfl) ?_ | refine zV rfl ?_ | refine zW rfl ?_ | refine zC ?_ | with_reducible refine zO ?_ | refine zH ?_ | refine zI ?_ | (with_reducible first | refine zM ?_ | refine zN ?_ | refine zE ?_ | refine zG ?_ | refine zF ?_) | refine zP ?_
theorem hF (xs : List Rw) (k : Nat) (hk : k < xs.length) (hl : xs.length ≤ 100000000) : zy Go.Proofs.Try.prog 120 [rwL xs, I k] [] (.sl 0 0 (xs.take k ++ xs.drop (k + 1)).length) [rwR (xs.take k ++ xs.drop (k + 1))] false := by
  have ew : IntKind.i64.wrap ((k : Int) + 1) = ((k + 1 : Nat) : Int) := by rw [IntKind.wrap_i64]; omega
  refine zw [4] Go.Proofs.Try.func120 rfl rfl ?_
  simp only [Go.Proofs.Try.ntmps120, List.length_cons, List.length_nil, Nat.reduceAdd, Nat.reduceSub, List.replicate_succ, List.replicate_zero, List.cons_append, List.nil_append]
  repeat' first | refine zK ?_ | refine zA ?_ | (refine isA ?_; refine zf rfl ?_) | (refine isL ?_; refine zU rfl (by kernel_rfl) rfl rfl ?_) | (refine zb rfl ?_; refine zT rfl (by kernel_rfl) rfl rfl ?_) | refine zD ?_ | refine zB _ rfl (by kernel_rfl) ?_ | refine zV rfl ?_ | refine zW rfl ?_ | refine zC ?_ | with_reducible refine zO ?_ | refine zH ?_ | refine zI ?_ | (with_reducible first | refine zM ?_ | refine zN ?_ | refine zE ?_ | refine zG ?_ | refine zF ?_) | refine zP ?_
  refine ut (fun _ => True) 11 rfl ?_
  refine yU 1 trivial rfl (by kernel_rfl) rfl (fun _ => rfl) rfl ?_
  refine yU 2 trivial rfl (by kernel_rfl) rfl (fun _ => rfl) rfl ?_
  refine y4 3 trivial rfl (by kernel_rfl) rfl (fun _ _ => yg rfl rfl rfl (by omega)) rfl ?_
  refine yU 5 trivial rfl (by kernel_rfl) rfl (fun _ => rfl) rfl ?_
  refine yU 6 trivial rfl (by kernel_rfl) rfl (fun _ => rfl) rfl ?_
  refine yU 7 trivial rfl (by kernel_rfl) rfl (fun _ => rfl) rfl ?_
  refine y4 8 trivial rfl (by kernel_rfl) rfl (fun _ _ => xP (k := k + 1) rfl rfl rfl ew (by omega)) rfl ?_
  refine wG 0 (by kernel_rfl) ?_
  refine gE rfl rfl rfl trivial rfl ?_
  refine wG 4 (by kernel_rfl) ?_
  refine sZ rfl rfl (yX (t := rwT) (xs := []) (ys := xs.take k) rfl rfl rfl rfl (.lst _ _) (by simp; omega) rfl) trivial rfl ?_
  refine wG 9 (by kernel_rfl) ?_
  refine sZ rfl rfl (yX (t := rwT) (xs := [] ++ xs.take k) (ys := xs.drop (k + 1)) rfl rfl rfl rfl (.lst _ _) (by simp; omega) rfl) trivial rfl ?_
  refine yU 10 trivial rfl (by kernel_rfl) rfl (fun _ => rfl) rfl ?_
  refine wj (by kernel_rfl) ?_
  repeat' first | refine zK ?_ | refine zA ?_ | refine zL [] ?_ | (refine isA ?_; refine zf rfl ?_) | (refine isL ?_; refine zU rfl (by kernel_rfl) rfl rfl ?_) | (refine zb rfl ?_; refine zT rfl (by kernel_rfl) rfl rfl ?_) | exact kS [2] rfl (wX (by decide) (.cons rfl rfl rfl rfl (zY (zJ _ _)) .nil)) (zj rfl rfl) (Or.inr ⟨rfl, fun q hq => by simp at hq; subst hq; exact ⟨Nat.zero_ne_one, fun _ => (xg _).flatS⟩⟩) | refine zD ?_ | refine zB _ rfl (by kernel_rfl) ?_ | refine zV rfl ?_ | refine zW rfl ?_ | refine zC ?_ | with_reducible refine zO ?_ | refine zH ?_ | refine zI ?_ | (with_reducible first | refine zM ?_ | refine zN ?_ | refine zE ?_ | refine zG ?_ | refine zF ?_) | refine zP ?_
end Go.Proofs.Ytojcojanokhnaaa.Ab
