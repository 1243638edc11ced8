/- Texts StB, SpA0, SqA, SqB0, RnDa, MuA, SoB0, SpA1, SqB1, DrwA, DrwB, DrwP, DrwQ in one. -/
import Derived.Test.YtkcicbigpbdjpaaZm0
import Derived.Test.YtkcicbigpbdjpaaAb2
import Derived.Test.YtkcicbigpbdjpaaAbW
import Derived.Test.YtkcicbigpbdjpaaAbT
import Derived.Test.YtkcicbigpbdjpaaAbX
import Derived.Test.YtkcicbigpbdjpaaAb5
import Derived.Test.YtkcicbigpbdjpaaAb9
set_option linter.unusedVariables false
set_option linter.unusedSimpArgs false
set_option maxRecDepth 20000
set_option maxHeartbeats 8000000
/- StB -/
namespace Go.Proofs.Ytkcicbigpbdjpaa.Ab
open Go.RowKit

theorem srt_le {xs : List Rw} (h : Srt xs) {i j : Nat} {x y : Rw} (hij : i ≤ j) (hx : xs[i]? = some x) (hy : xs[j]? = some y) : leW x y := by
  rcases Nat.lt_or_eq_of_le hij with hlt | rfl
  · obtain ⟨h1, rfl⟩ := List.getElem?_eq_some_iff.1 hx
    obtain ⟨h2, rfl⟩ := List.getElem?_eq_some_iff.1 hy
    exact List.pairwise_iff_getElem.1 h i j h1 h2 hlt
  · rw [hx] at hy
    cases hy
    exact leW_refl _
theorem ins_at {out : List Rw} {x : Rw} {k : Nat} (hs : Srt out) (hk : k ≤ out.length) (hB : ∀ j z, k ≤ j → out[j]? = some z → ¬ leW z x) (hA : ∀ z, 0 < k → out[k - 1]? = some z → leW z x) : out.take k ++ x :: out.drop k = insV x out := by
  have hA' : ∀ z ∈ out.take k, leW z x := fun z hz => by
    obtain ⟨j, hj⟩ := List.getElem?_of_mem hz
    have hlt : j < k := by
      have := (List.getElem?_eq_some_iff.1 hj).1
      simp at this
      omega
    rw [List.getElem?_take_of_lt hlt] at hj
    obtain ⟨y, hy⟩ : ∃ y, out[k - 1]? = some y := ⟨_, List.getElem?_eq_getElem (by omega)⟩
    exact leW_trans (srt_le hs (show j ≤ k - 1 by omega) hj hy) (hA y (by omega) hy)
  have hB' : ∀ z ∈ out.drop k, leW x z := fun z hz => by
    obtain ⟨j, hj⟩ := List.getElem?_of_mem hz
    rw [List.getElem?_drop] at hj
    exact leW_not (hB (k + j) z (by omega) hj)
  refine srt_unique ?_ (ins_srt x hs) ?_
  · have hs' : Srt (out.take k ++ out.drop k) := by rw [List.take_append_drop]; exact hs
    obtain ⟨q1, q2, q3⟩ := List.pairwise_append.1 hs'
    refine List.pairwise_append.2 ⟨q1, List.pairwise_cons.2 ⟨hB', q2⟩, fun a ha c hc => ?_⟩
    rcases List.mem_cons.1 hc with rfl | hc
    · exact hA' a ha
    · exact q3 a ha c hc
  · refine List.perm_middle.trans ?_
    rw [List.take_append_drop]
    exact (ins_perm x out).symm

theorem src_sub {H : List Reg} {h k off m : Nat} {xs : List Rw} (hH : H[h]? = some (rwR xs)) (hk : k ≤ xs.length) (ho : off = k) (hm : m = xs.length - k) : Src H (.sl h off m) (xs.drop k).length (rwT.flat (xs.drop k)) := by
  subst ho hm
  have q := Src.sl (H := H) (h := h) (off := off) (m := xs.length - off) hH (Nat.zero_le _) (by show (off + (xs.length - off)) * 3 ≤ (rwT.flat xs).length; rw [flat_length]; show _ ≤ xs.length * 3; omega)
  have e : ((rwR xs).cells.drop (off * (rwR xs).esz)).take ((xs.length - off) * (rwR xs).esz) = rwT.flat (xs.drop off) := drop_l xs off
  rw [e] at q
  rw [List.length_drop]
  exact q
theorem src_pre {H : List Reg} {h k off m : Nat} {xs : List Rw} (hH : H[h]? = some (rwR xs)) (hk : k ≤ xs.length) (ho : off = 0) (hm : m = k) : Src H (.sl h off m) (xs.take k).length (rwT.flat (xs.take k)) := by
  subst ho hm
  have q := Src.sl (H := H) (h := h) (off := 0) (m := m) hH (Nat.zero_le _) (by show (0 + m) * 3 ≤ (rwT.flat xs).length; rw [flat_length]; show _ ≤ xs.length * 3; omega)
  have e : ((rwR xs).cells.drop (0 * (rwR xs).esz)).take (m * (rwR xs).esz) = rwT.flat (xs.take m) := take_l xs m
  rw [e] at q
  rw [List.length_take, Nat.min_eq_left hk]
  exact q

theorem src_all {H : List Reg} {h : Nat} {xs : List Rw} (hH : H[h]? = some (rwR xs)) : Src H (.sl h 0 xs.length) xs.length (rwT.flat xs) := by
  have q := src_pre (k := xs.length) hH (Nat.le_refl _) rfl rfl
  rw [List.take_length] at q
  exact q

theorem c_ssort (xs : List Rw) (hl : xs.length ≤ 100000000) : Meets Go.Proofs.Try.prog 60 [rwL xs] [] (.sl 0 0 (srtV xs).length) [rwR (srtV xs)] false := by
  refine meets_of [2] Go.Proofs.Try.func60 rfl rfl ?_
  simp only [Go.Proofs.Try.ntmps60, List.length_cons, List.length_nil, Nat.reduceAdd, Nat.reduceSub, List.replicate_succ, List.replicate_zero, List.cons_append, List.nil_append]
  repeat' first | refine aw_seq ?_ | refine aw_region ?_ | refine aw_lex [] ?_ | (refine isA ?_; refine do_F rfl ?_) | (refine isL ?_; refine lex_F rfl (by kernel_rfl) rfl rfl ?_) | (refine isLg rfl ?_; refine lex_S rfl (by kernel_rfl) rfl rfl ?_) | refine aops_nil ?_ | refine lex_done _ rfl (by kernel_rfl) ?_ | refine aw_ct rfl ?_ | refine aw_cf rfl ?_ | refine aw_block ?_ | with_reducible refine then_n ?_ | refine aw_skip ?_ | refine aw_exit ?_ | (with_reducible first | refine then_x ?_ | refine then_r ?_ | refine block_x ?_ | refine block_n ?_ | refine block_r ?_) | refine aw_ret ?_
  refine aw_loop (α := { i : Nat // i ≤ xs.length }) (fun i => ⟨[rwL xs, .any, .any, .sl 0 0 (srtV (xs.take i.1)).length, I i.1, .any, .any, .any, .any, .any, .any, .any, .any, .any, .any, .any, .any, .any, .any, .any, .any, .any, .any, .any, .any, .any, .any, .any, .any, .any, .any, .any, .any, .any, .any, .any, .any, .any, .any, .any, .any, .any, .any, .any, .any, .any, .any, .any, .any, .any], [rwR (srtV (xs.take i.1))], 0⟩) (fun i => xs.length - i.1) ⟨0, Nat.zero_le _⟩ ?_ ?_
  · exact sub0 [0] rfl rfl (by decide) (.cons rfl rfl rfl rfl (les_refl (flat_noH _ _)) .nil) (by repeat' first | exact les_nil | refine les_cons ?_ ?_ | exact le_any | exact le_refl rfl | exact le_sl rfl rfl | exact le_ptr rfl)
  · rintro ⟨i, hi⟩
    repeat' first | refine aw_seq ?_ | refine aw_region ?_ | refine aw_lex [] ?_ | (refine isA ?_; refine do_F rfl ?_) | (refine isL ?_; refine lex_F rfl (by kernel_rfl) rfl rfl ?_) | (refine isLg rfl ?_; refine lex_S rfl (by kernel_rfl) rfl rfl ?_) | refine aops_nil ?_ | refine lex_done _ rfl (by kernel_rfl) ?_ | refine aw_ct rfl ?_ | refine aw_cf rfl ?_ | refine aw_block ?_ | with_reducible refine then_n ?_ | refine aw_skip ?_ | refine aw_exit ?_ | (with_reducible first | refine then_x ?_ | refine then_r ?_ | refine block_x ?_ | refine block_n ?_ | refine block_r ?_) | refine aw_ret ?_
    refine aw_cond rfl (fun h => ?_) (fun h => ?_)
    · have hlt : i < xs.length := by simpa using h
      obtain ⟨x, hx⟩ : ∃ z, xs[i]? = some z := ⟨_, List.getElem?_eq_getElem hlt⟩
      have e1 : srtV (xs.take (i + 1)) = insV x (srtV (xs.take i)) := by rw [List.take_add_one, hx]; exact srtV_snoc _ _
      have hso := srtV_srt (xs.take i)
      have hol : (srtV (xs.take i)).length = i := by rw [srtV_len]; simp; omega
      generalize srtV (xs.take i) = out at e1 hso hol
      repeat' first | refine aw_seq ?_ | refine aw_region ?_ | refine aw_lex [] ?_ | (refine isA ?_; refine do_F rfl ?_) | (refine isL ?_; refine lex_F rfl (by kernel_rfl) rfl rfl ?_) | (refine isLg rfl ?_; refine lex_S rfl (by kernel_rfl) rfl rfl ?_) | refine aops_nil ?_ | refine lex_done _ rfl (by kernel_rfl) ?_ | refine aw_ct rfl ?_ | refine aw_cf rfl ?_ | refine aw_block ?_ | with_reducible refine then_n ?_ | refine aw_skip ?_ | refine aw_exit ?_ | (with_reducible first | refine then_x ?_ | refine then_r ?_ | refine block_x ?_ | refine block_n ?_ | refine block_r ?_) | refine aw_ret ?_
      refine aw_loop (α := { k : Nat // k ≤ out.length ∧ ∀ j z, k ≤ j → out[j]? = some z → ¬ leW z x }) (fun k => ⟨[rwL xs, .any, .any, .sl 0 0 out.length, I i, I k.1, .any, .any, .any, .any, .any, .any, .any, .any, .any, .any, .any, .any, .any, .any, .any, .any, .any, .any, .any, .any, .any, .any, .any, .any, .any, .any, .any, .any, .any, .any, .any, .any, .any, .any, .any, .any, .any, .any, .any, .any, .any, .any, .any, .any], [rwR out], 0⟩) (fun k => k.1) ⟨out.length, Nat.le_refl _, fun j z hj hz => absurd (List.getElem?_eq_some_iff.1 hz).1 (by omega)⟩ ?_ ?_
      · exact sub0 [0] rfl rfl (by decide) (.cons rfl rfl rfl rfl (les_refl (flat_noH _ _)) .nil) (by repeat' first | exact les_nil | refine les_cons ?_ ?_ | exact le_any | exact le_refl rfl | exact le_sl rfl rfl | exact le_ptr rfl)
      · rintro ⟨k, hk, hB⟩
        repeat' first | refine aw_seq ?_ | refine aw_region ?_ | refine aw_lex [] ?_ | (refine isA ?_; refine do_F rfl ?_) | (refine isL ?_; refine lex_F rfl (by kernel_rfl) rfl rfl ?_) | (refine isLg rfl ?_; refine lex_S rfl (by kernel_rfl) rfl rfl ?_) | refine aops_nil ?_ | refine lex_done _ rfl (by kernel_rfl) ?_ | refine aw_ct rfl ?_ | refine aw_cf rfl ?_ | refine aw_block ?_ | with_reducible refine then_n ?_ | refine aw_skip ?_ | refine aw_exit ?_ | (with_reducible first | refine then_x ?_ | refine then_r ?_ | refine block_x ?_ | refine block_n ?_ | refine block_r ?_) | refine aw_ret ?_
        refine lex_br rfl rfl rfl rfl (fun p1 => ?_) (fun p1 => ?_)
        · have q1 : 0 < k := by have := of_decide_eq_true p1; simp only at this; omega
          obtain ⟨y, hy⟩ : ∃ z, out[k - 1]? = some z := ⟨_, List.getElem?_eq_getElem (by omega)⟩
          have ew : IntKind.i64.wrap ((k : Int) - 1) = ((k - 1 : Nat) : Int) := by rw [IntKind.wrap_i64]; omega
          repeat' first | refine aw_seq ?_ | refine aw_region ?_ | refine aw_lex [] ?_ | (refine isA ?_; refine do_F rfl ?_) | (refine isL ?_; refine lex_F rfl (by kernel_rfl) rfl rfl ?_) | (refine isLg rfl ?_; refine lex_S rfl (by kernel_rfl) rfl rfl ?_) | (refine isAi (x := .tmp 24) ?_; refine do_R rfl (ia_l (t := rwT) (z := x) rfl rfl rfl rfl (Int.natCast_nonneg i) hx) rfl ?_) | (refine isLi (x := .tmp 24) rfl ?_; refine lex_R rfl (by kernel_rfl) rfl (ia_l (t := rwT) (z := x) rfl rfl rfl rfl (Int.natCast_nonneg i) hx) rfl ?_) | (refine isAi (x := .tmp 19) ?_; refine do_R rfl (ia_s (t := rwT) (xs := out) rfl rfl rfl rfl rfl (by rw [ew]; exact Int.natCast_nonneg _) (by rw [ew]; omega)) rfl ?_) | (refine isLi (x := .tmp 19) rfl ?_; refine lex_R rfl (by kernel_rfl) rfl (ia_s (t := rwT) (xs := out) rfl rfl rfl rfl rfl (by rw [ew]; exact Int.natCast_nonneg _) (by rw [ew]; omega)) rfl ?_) | (refine isAl (x := .tmp 22) ?_; refine do_R rfl (ld_a (T := rwT) (i := k - 1) (xs := out) (z := y) rfl (by simp only [ew]; rfl) rfl hy) rfl ?_) | (refine isLl (x := .tmp 22) rfl ?_; refine lex_R rfl (by kernel_rfl) rfl (ld_a (T := rwT) (i := k - 1) (xs := out) (z := y) rfl (by simp only [ew]; rfl) rfl hy) rfl ?_) | (refine isAc 116 ?_; refine do_R rfl (st_call rfl (c_scmp y x) (.cons (.same rfl) (.cons (.same rfl) .nil)) rfl) rfl ?_) | (refine isLc 116 rfl ?_; refine lex_R rfl (by kernel_rfl) rfl (st_call rfl (c_scmp y x) (.cons (.same rfl) (.cons (.same rfl) .nil)) rfl) rfl ?_) | refine aops_nil ?_ | refine lex_done _ rfl (by kernel_rfl) ?_ | refine aw_ct rfl ?_ | refine aw_cf rfl ?_ | refine aw_block ?_ | with_reducible refine then_n ?_ | refine aw_skip ?_ | refine aw_exit ?_ | (with_reducible first | refine then_x ?_ | refine then_r ?_ | refine block_x ?_ | refine block_n ?_ | refine block_r ?_) | refine aw_ret ?_
          refine aw_cond rfl (fun p2 => ?_) (fun p2 => ?_)
          · have q2 := of_decide_eq_true p2
            repeat' first | refine aw_seq ?_ | refine aw_region ?_ | refine aw_lex [] ?_ | (refine isA ?_; refine do_F rfl ?_) | (refine isL ?_; refine lex_F rfl (by kernel_rfl) rfl rfl ?_) | (refine isLg rfl ?_; refine lex_S rfl (by kernel_rfl) rfl rfl ?_) | refine aops_nil ?_ | refine lex_done _ rfl (by kernel_rfl) ?_ | refine aw_ct rfl ?_ | refine aw_cf rfl ?_ | refine aw_block ?_ | with_reducible refine then_n ?_ | refine aw_skip ?_ | refine aw_exit ?_ | (with_reducible first | refine then_x ?_ | refine then_r ?_ | refine block_x ?_ | refine block_n ?_ | refine block_r ?_) | refine aw_ret ?_
            refine ⟨⟨k - 1, by omega, fun j z hj hz => ?_⟩, by simp only; omega, ?_⟩
            · rcases Nat.lt_or_ge j k with hjk | hjk
              · obtain rfl : j = k - 1 := by omega
                rw [hy] at hz
                cases hz
                intro hle
                have : cmpV y x ≤ 0 := hle
                omega
              · exact hB j z hjk hz
            · exact sub0 [0] rfl rfl (by decide) (.cons rfl rfl rfl rfl (les_refl (flat_noH _ _)) .nil) (by
                repeat' first | exact les_nil | refine les_cons ?_ ?_ | exact le_any | exact le_refl rfl | exact le_sl rfl rfl | exact le_k (congrArg _ ew.symm))
          · have q2 := of_decide_eq_false p2
            have hfin := ins_at hso hk hB (fun z _ hz => by rw [hy] at hz; cases hz; show cmpV y x ≤ 0; omega)
            have hkl : k ≤ i := by omega
            repeat' first | refine aw_seq ?_ | refine aw_region ?_ | (refine isA ?_; refine do_F rfl ?_) | (refine isL ?_; refine lex_F rfl (by kernel_rfl) rfl rfl ?_) | (refine isLg rfl ?_; refine lex_S rfl (by kernel_rfl) rfl rfl ?_) | refine aops_nil ?_ | refine lex_done _ rfl (by kernel_rfl) ?_ | refine aw_ct rfl ?_ | refine aw_cf rfl ?_ | refine aw_block ?_ | with_reducible refine then_n ?_ | refine aw_skip ?_ | refine aw_exit ?_ | (with_reducible first | refine then_x ?_ | refine then_r ?_ | refine block_x ?_ | refine block_n ?_ | refine block_r ?_) | refine aw_ret ?_
            refine aw_perG (fun H => H[0]? = some (rwR out)) 10 rfl ?_
            refine perG_P 5 rfl rfl (by kernel_rfl) rfl (fun _ => rfl) rfl ?_
            refine perG_P 6 rfl rfl (by kernel_rfl) rfl (fun _ => rfl) rfl ?_
            refine perG_R 7 rfl rfl (by kernel_rfl) rfl (fun H hG => step_slice_sl (l := (k : Int)) (h := (out.length : Int)) rfl rfl hG (Nat.zero_le _) rfl (.yes _ rfl) (.no _) (by omega) (by omega) (by omega)) rfl ?_
            refine perG_P 0 rfl rfl (by kernel_rfl) rfl (fun _ => rfl) rfl ?_
            refine perG_P 1 rfl rfl (by kernel_rfl) rfl (fun _ => rfl) rfl ?_
            refine perG_R 2 rfl rfl (by kernel_rfl) rfl (fun _ _ => ia_l (t := rwT) (z := x) rfl rfl rfl rfl (Int.natCast_nonneg i) hx) rfl ?_
            refine perG_P 3 rfl rfl (by kernel_rfl) rfl (fun _ => rfl) rfl ?_
            refine perG_1 4 (by kernel_rfl) ?_
            refine br_WF rfl rfl rfl rfl rfl ?_
            refine perG_1 8 (by kernel_rfl) ?_
            refine br_W rfl rfl (ap_l (t := rwT) (xs := [x]) (ys := out.drop k) rfl rfl rfl rfl (src_sub rfl hk (by simp) (by simp)) (by simp; omega) rfl) rfl rfl ?_
            refine perG_P 9 rfl rfl (by kernel_rfl) rfl (fun _ => rfl) rfl ?_
            refine perG_done (by kernel_rfl) ?_
            repeat' first | refine aw_seq ?_ | refine aw_region ?_ | refine aw_lex [] ?_ | (refine isA ?_; refine do_F rfl ?_) | (refine isL ?_; refine lex_F rfl (by kernel_rfl) rfl rfl ?_) | (refine isLg rfl ?_; refine lex_S rfl (by kernel_rfl) rfl rfl ?_) | (refine isAx ?_; refine do_R rfl (step_slice_sl (l := (0 : Int)) (h := (k : Int)) rfl rfl rfl (Nat.zero_le _) rfl (.no 0) (.yes _ rfl) (Int.le_refl 0) (Int.natCast_nonneg k) (by omega)) rfl ?_) | (refine isLx rfl ?_; refine lex_R rfl (by kernel_rfl) rfl (step_slice_sl (l := (0 : Int)) (h := (k : Int)) rfl rfl rfl (Nat.zero_le _) rfl (.no 0) (.yes _ rfl) (Int.le_refl 0) (Int.natCast_nonneg k) (by omega)) rfl ?_) | (refine isAp ?_; refine do_R rfl (ap_l (t := rwT) (xs := []) (ys := out.take k) rfl rfl rfl rfl (src_pre rfl hk (by simp) (by simp)) (by simp; omega) rfl) rfl ?_) | (refine isLp rfl ?_; refine lex_R rfl (by kernel_rfl) rfl (ap_l (t := rwT) (xs := []) (ys := out.take k) rfl rfl rfl rfl (src_pre rfl hk (by simp) (by simp)) (by simp; omega) rfl) rfl ?_) | (refine isAp ?_; refine do_R rfl (ap_l (t := rwT) (xs := [] ++ out.take k) (ys := [x] ++ out.drop k) rfl rfl rfl rfl (src_all rfl) (by simp; omega) rfl) rfl ?_) | (refine isLp rfl ?_; refine lex_R rfl (by kernel_rfl) rfl (ap_l (t := rwT) (xs := [] ++ out.take k) (ys := [x] ++ out.drop k) rfl rfl rfl rfl (src_all rfl) (by simp; omega) rfl) rfl ?_) | refine aops_nil ?_ | refine lex_done _ rfl (by kernel_rfl) ?_ | refine aw_ct rfl ?_ | refine aw_cf rfl ?_ | refine aw_block ?_ | with_reducible refine then_n ?_ | refine aw_skip ?_ | refine aw_exit ?_ | (with_reducible first | refine then_x ?_ | refine then_r ?_ | refine block_x ?_ | refine block_n ?_ | refine block_r ?_) | refine aw_ret ?_
            refine ⟨⟨i + 1, hlt⟩, by simp only; omega, ?_⟩
            exact sub0 [5] rfl rfl (by decide) (.cons rfl rfl rfl rfl (les_eq (show rwT.flat ([] ++ out.take k ++ ([x] ++ out.drop k)) = rwT.flat (srtV (xs.take (i + 1))) by rw [e1, ← hfin]; rfl) (flat_noH _ _)) .nil) (by
              repeat' first | exact les_nil | refine les_cons ?_ ?_ | exact le_any | exact le_refl rfl | exact le_sl rfl (show ([] ++ out.take k ++ ([x] ++ out.drop k)).length = (srtV (xs.take (i + 1))).length by rw [e1, ← hfin]; rfl) | exact le_sl rfl (show (srtV (xs.take (i + 1))).length = ([] ++ out.take k ++ ([x] ++ out.drop k)).length by rw [e1, ← hfin]; rfl) | exact le_i hlt (by omega))
        · have q1 : k = 0 := by have := of_decide_eq_false p1; simp only at this; omega
          have hfin := ins_at hso hk hB (fun z h0 hz => by omega)
          have hkl : k ≤ i := by omega
          repeat' first | refine aw_seq ?_ | refine aw_region ?_ | (refine isA ?_; refine do_F rfl ?_) | (refine isL ?_; refine lex_F rfl (by kernel_rfl) rfl rfl ?_) | (refine isLg rfl ?_; refine lex_S rfl (by kernel_rfl) rfl rfl ?_) | refine aops_nil ?_ | refine lex_done _ rfl (by kernel_rfl) ?_ | refine aw_ct rfl ?_ | refine aw_cf rfl ?_ | refine aw_block ?_ | with_reducible refine then_n ?_ | refine aw_skip ?_ | refine aw_exit ?_ | (with_reducible first | refine then_x ?_ | refine then_r ?_ | refine block_x ?_ | refine block_n ?_ | refine block_r ?_) | refine aw_ret ?_
          refine aw_perG (fun H => H[0]? = some (rwR out)) 10 rfl ?_
          refine perG_P 5 rfl rfl (by kernel_rfl) rfl (fun _ => rfl) rfl ?_
          refine perG_P 6 rfl rfl (by kernel_rfl) rfl (fun _ => rfl) rfl ?_
          refine perG_R 7 rfl rfl (by kernel_rfl) rfl (fun H hG => step_slice_sl (l := (k : Int)) (h := (out.length : Int)) rfl rfl hG (Nat.zero_le _) rfl (.yes _ rfl) (.no _) (by omega) (by omega) (by omega)) rfl ?_
          refine perG_P 0 rfl rfl (by kernel_rfl) rfl (fun _ => rfl) rfl ?_
          refine perG_P 1 rfl rfl (by kernel_rfl) rfl (fun _ => rfl) rfl ?_
          refine perG_R 2 rfl rfl (by kernel_rfl) rfl (fun _ _ => ia_l (t := rwT) (z := x) rfl rfl rfl rfl (Int.natCast_nonneg i) hx) rfl ?_
          refine perG_P 3 rfl rfl (by kernel_rfl) rfl (fun _ => rfl) rfl ?_
          refine perG_1 4 (by kernel_rfl) ?_
          refine br_WF rfl rfl rfl rfl rfl ?_
          refine perG_1 8 (by kernel_rfl) ?_
          refine br_W rfl rfl (ap_l (t := rwT) (xs := [x]) (ys := out.drop k) rfl rfl rfl rfl (src_sub rfl hk (by simp) (by simp)) (by simp; omega) rfl) rfl rfl ?_
          refine perG_P 9 rfl rfl (by kernel_rfl) rfl (fun _ => rfl) rfl ?_
          refine perG_done (by kernel_rfl) ?_
          repeat' first | refine aw_seq ?_ | refine aw_region ?_ | refine aw_lex [] ?_ | (refine isA ?_; refine do_F rfl ?_) | (refine isL ?_; refine lex_F rfl (by kernel_rfl) rfl rfl ?_) | (refine isLg rfl ?_; refine lex_S rfl (by kernel_rfl) rfl rfl ?_) | (refine isAx ?_; refine do_R rfl (step_slice_sl (l := (0 : Int)) (h := (k : Int)) rfl rfl rfl (Nat.zero_le _) rfl (.no 0) (.yes _ rfl) (Int.le_refl 0) (Int.natCast_nonneg k) (by omega)) rfl ?_) | (refine isLx rfl ?_; refine lex_R rfl (by kernel_rfl) rfl (step_slice_sl (l := (0 : Int)) (h := (k : Int)) rfl rfl rfl (Nat.zero_le _) rfl (.no 0) (.yes _ rfl) (Int.le_refl 0) (Int.natCast_nonneg k) (by omega)) rfl ?_) | (refine isAp ?_; refine do_R rfl (ap_l (t := rwT) (xs := []) (ys := out.take k) rfl rfl rfl rfl (src_pre rfl hk (by simp) (by simp)) (by simp; omega) rfl) rfl ?_) | (refine isLp rfl ?_; refine lex_R rfl (by kernel_rfl) rfl (ap_l (t := rwT) (xs := []) (ys := out.take k) rfl rfl rfl rfl (src_pre rfl hk (by simp) (by simp)) (by simp; omega) rfl) rfl ?_) | (refine isAp ?_; refine do_R rfl (ap_l (t := rwT) (xs := [] ++ out.take k) (ys := [x] ++ out.drop k) rfl rfl rfl rfl (src_all rfl) (by simp; omega) rfl) rfl ?_) | (refine isLp rfl ?_; refine lex_R rfl (by kernel_rfl) rfl (ap_l (t := rwT) (xs := [] ++ out.take k) (ys := [x] ++ out.drop k) rfl rfl rfl rfl (src_all rfl) (by simp; omega) rfl) rfl ?_) | refine aops_nil ?_ | refine lex_done _ rfl (by kernel_rfl) ?_ | refine aw_ct rfl ?_ | refine aw_cf rfl ?_ | refine aw_block ?_ | with_reducible refine then_n ?_ | refine aw_skip ?_ | refine aw_exit ?_ | (with_reducible first | refine then_x ?_ | refine then_r ?_ | refine block_x ?_ | refine block_n ?_ | refine block_r ?_) | refine aw_ret ?_
          refine ⟨⟨i + 1, hlt⟩, by simp only; omega, ?_⟩
          exact sub0 [5] rfl rfl (by decide) (.cons rfl rfl rfl rfl (les_eq (show rwT.flat ([] ++ out.take k ++ ([x] ++ out.drop k)) = rwT.flat (srtV (xs.take (i + 1))) by rw [e1, ← hfin]; rfl) (flat_noH _ _)) .nil) (by
            repeat' first | exact les_nil | refine les_cons ?_ ?_ | exact le_any | exact le_refl rfl | exact le_sl rfl (show ([] ++ out.take k ++ ([x] ++ out.drop k)).length = (srtV (xs.take (i + 1))).length by rw [e1, ← hfin]; rfl) | exact le_sl rfl (show (srtV (xs.take (i + 1))).length = ([] ++ out.take k ++ ([x] ++ out.drop k)).length by rw [e1, ← hfin]; rfl) | exact le_i hlt (by omega))
    · have hge : i = xs.length := by
        have : ¬ ((i : Int) < xs.length) := by simpa using h
        omega
      subst hge
      have e2 : srtV (xs.take xs.length) = srtV xs := by rw [List.take_length]
      repeat' first | refine aw_seq ?_ | refine aw_region ?_ | refine aw_lex [] ?_ | (refine isA ?_; refine do_F rfl ?_) | (refine isL ?_; refine lex_F rfl (by kernel_rfl) rfl rfl ?_) | (refine isLg rfl ?_; refine lex_S rfl (by kernel_rfl) rfl rfl ?_) | exact finL (ty := rwT) rfl rfl rfl rfl (by simp only [e2]) e2 (flat_rw _) | refine aops_nil ?_ | refine lex_done _ rfl (by kernel_rfl) ?_ | refine aw_ct rfl ?_ | refine aw_cf rfl ?_ | refine aw_block ?_ | with_reducible refine then_n ?_ | refine aw_skip ?_ | refine aw_exit ?_ | (with_reducible first | refine then_x ?_ | refine then_r ?_ | refine block_x ?_ | refine block_n ?_ | refine block_r ?_) | refine aw_ret ?_
end Go.Proofs.Ytkcicbigpbdjpaa.Ab

/- SpA0 -/
namespace Go.Proofs.Ytkcicbigpbdjpaa.Ab
open Go.RowKit

/-! ### Costs -/
def costV (x : Rw) : Int := cond (vRw x) (1 + x.c) 0
def totV : List Rw → Int
  | [] => 0
  | x :: xs => costV x + totV xs
theorem inV_iff {x lo hi : Int} : inV x lo hi = true ↔ lo ≤ x ∧ x ≤ hi := by simp [inV]
theorem vRw_iff {x : Rw} : vRw x = true ↔ (0 ≤ x.a ∧ x.a ≤ 9) ∧ (0 ≤ x.b ∧ x.b ≤ 99) ∧ (0 ≤ x.c ∧ x.c ≤ 3) := by
  simp only [vRw, Bool.and_eq_true, inV_iff]
theorem cost_b (x : Rw) : 0 ≤ costV x ∧ costV x ≤ 4 := by
  unfold costV
  cases h : vRw x with
  | false => simp
  | true => have := (vRw_iff.1 h).2.2; simp only [cond_true]; omega
theorem cost_pos {x : Rw} (h : vRw x = true) : 1 ≤ costV x := by
  have := (vRw_iff.1 h).2.2
  simp only [costV, h, cond_true]; omega
theorem tot_b : ∀ xs : List Rw, 0 ≤ totV xs ∧ totV xs ≤ 4 * xs.length
  | [] => by simp [totV]
  | x :: xs => by
    have h1 := tot_b xs
    have h2 := cost_b x
    simp only [totV, List.length_cons]; omega
theorem totV_app : ∀ xs ys : List Rw, totV (xs ++ ys) = totV xs + totV ys
  | [], ys => by simp [totV]
  | x :: xs, ys => by simp only [List.cons_append, totV, totV_app xs ys]; omega
theorem totV_snoc {xs : List Rw} {i : Nat} {z : Rw} (hz : xs[i]? = some z) : totV (xs.take (i + 1)) = totV (xs.take i) + costV z := by
  rw [take_snoc hz, totV_app]; simp [totV]
theorem totV_perm {xs ys : List Rw} (h : xs.Perm ys) : totV xs = totV ys := by
  induction h with
  | nil => rfl
  | cons x _ ih => simp only [totV, ih]
  | swap x y l => simp only [totV]; omega
  | trans _ _ h1 h2 => exact h1.trans h2
theorem totV_pos : ∀ {xs : List Rw}, (∀ x ∈ xs, vRw x = true) → (xs.length : Int) ≤ totV xs
  | [], _ => by simp [totV]
  | x :: xs, h => by
    have h1 := totV_pos fun y hy => h y (List.mem_cons_of_mem _ hy)
    have h2 := cost_pos (h x (List.mem_cons_self ..))
    simp only [totV, List.length_cons]; omega

/-! ### Order -/
instance (x y : Rw) : Decidable (leW x y) := inferInstanceAs (Decidable (cmpV x y ≤ 0))
instance (xs : List Rw) : Decidable (Srt xs) := inferInstanceAs (Decidable (xs.Pairwise leW))
def isoV (xs : List Rw) : Bool := decide (Srt xs)
def belL (x : Rw) : Option Rw → Bool
  | none => false
  | some y => decide (cmpV x y < 0)
/-- x stands before the last of a list. -/
def bel (x : Rw) (out : List Rw) : Bool := belL x out[out.length - 1]?
theorem bel_nil (x : Rw) : bel x [] = false := rfl
theorem bel_snoc (x y : Rw) (out : List Rw) : bel x (out ++ [y]) = decide (cmpV x y < 0) := by
  unfold bel
  rw [show (out ++ [y]).length - 1 = out.length by simp, List.getElem?_append_right (Nat.le_refl _), Nat.sub_self]
  rfl
theorem srt_snoc {xs : List Rw} {y : Rw} (h : Srt xs) (hb : bel y xs = false) : Srt (xs ++ [y]) := by
  refine List.pairwise_append.2 ⟨h, List.pairwise_singleton _ _, fun a ha c hc => ?_⟩
  have hc' : c = y := by simpa using hc
  subst hc'
  obtain ⟨i, hi⟩ := List.getElem?_of_mem ha
  have hlt := (List.getElem?_eq_some_iff.1 hi).1
  obtain ⟨z, hz⟩ : ∃ z, xs[xs.length - 1]? = some z := ⟨_, List.getElem?_eq_getElem (by omega)⟩
  have hzc : leW z c := by
    unfold bel at hb
    rw [hz] at hb
    exact Classical.byContradiction fun hn => absurd (cmp_neg.2 hn) (of_decide_eq_false hb)
  exact leW_trans (srt_le h (show i ≤ xs.length - 1 by omega) hi hz) hzc

/-! ### The least -/
def minF (xs : List Rw) : Nat → Int
  | 0 => -1
  | n + 1 => cond (decide (minF xs n < 0)) n (match xs[n]?, xs[(minF xs n).toNat]? with
    | some x, some y => cond (decide (cmpV x y < 0)) n (minF xs n)
    | _, _ => minF xs n)
def minV (xs : List Rw) : Int := minF xs xs.length
theorem minF_ok {xs : List Rw} : ∀ {n : Nat}, n ≤ xs.length → 0 < n → ∃ k y, minF xs n = ((k : Nat) : Int) ∧ k < n ∧ xs[k]? = some y ∧ ∀ j z, j < n → xs[j]? = some z → leW y z
  | 0, _, h => absurd h (Nat.lt_irrefl 0)
  | n + 1, hn, _ => by
    obtain ⟨x, hx⟩ : ∃ z, xs[n]? = some z := ⟨_, List.getElem?_eq_getElem (by omega)⟩
    rcases Nat.eq_zero_or_pos n with rfl | hpos
    · refine ⟨0, x, rfl, by omega, hx, fun j z hj hz => ?_⟩
      obtain rfl : j = 0 := by omega
      rw [hx] at hz
      cases hz
      exact leW_refl _
    · obtain ⟨k, y, h1, h2, h3, h4⟩ := minF_ok (xs := xs) (n := n) (by omega) hpos
      rw [minF, h1, decide_eq_false (show ¬ ((k : Nat) : Int) < 0 from by have := Int.natCast_nonneg k; omega), cond_false, Int.toNat_natCast, hx, h3]
      simp only
      cases hc : decide (cmpV x y < 0) with
      | true =>
        have hle := leW_not (cmp_neg.1 (of_decide_eq_true hc))
        refine ⟨n, x, rfl, by omega, hx, fun j z hj hz => ?_⟩
        rcases Nat.lt_or_ge j n with hjn | hjn
        · exact leW_trans hle (h4 j z hjn hz)
        · obtain rfl : j = n := by omega
          rw [hx] at hz
          cases hz
          exact leW_refl _
      | false =>
        refine ⟨k, y, rfl, by omega, h3, fun j z hj hz => ?_⟩
        rcases Nat.lt_or_ge j n with hjn | hjn
        · exact h4 j z hjn hz
        · obtain rfl : j = n := by omega
          rw [hx] at hz
          cases hz
          exact Classical.byContradiction fun hn => absurd (cmp_neg.2 hn) (of_decide_eq_false hc)
theorem minV_ok {xs : List Rw} (h : 0 < xs.length) : ∃ k y, minV xs = ((k : Nat) : Int) ∧ xs[k]? = some y ∧ ∀ z ∈ xs, leW y z := by
  obtain ⟨k, y, h1, h2, h3, h4⟩ := minF_ok (Nat.le_refl xs.length) h
  refine ⟨k, y, h1, h3, fun z hz => ?_⟩
  obtain ⟨j, hj⟩ := List.getElem?_of_mem hz
  exact h4 j z (List.getElem?_eq_some_iff.1 hj).1 hj
theorem take_perm {xs : List Rw} {k : Nat} {y : Rw} (h : xs[k]? = some y) : (xs.take k ++ xs.drop (k + 1) ++ [y]).Perm xs := by
  have e : xs = xs.take k ++ y :: xs.drop (k + 1) := by rw [← take_drop1 h, List.take_append_drop]
  have : (xs.take k ++ y :: xs.drop (k + 1)).Perm (y :: (xs.take k ++ xs.drop (k + 1))) := List.perm_middle
  rw [← e] at this
  exact List.perm_append_comm.trans this.symm


def avS (rs : List Rn) : Bool := rs.all fun r => !decide (r.length = 0) && (isoV r && avR r)
end Go.Proofs.Ytkcicbigpbdjpaa.Ab

/- SqA -/
namespace Go.Proofs.Ytkcicbigpbdjpaa.Ab
open Go.RowKit

theorem c_irc (x : Rw) : Meets Go.Proofs.Try.prog 110 [.agg (rwE x)] [] (I (costV x)) [] false := by
  refine meets_of [2] Go.Proofs.Try.func110 rfl rfl ?_
  simp only [Go.Proofs.Try.ntmps110, List.length_cons, List.length_nil, Nat.reduceAdd, Nat.reduceSub, List.replicate_succ, List.replicate_zero, List.cons_append, List.nil_append]
  repeat' first | refine aw_seq ?_ | refine aw_region ?_ | refine aw_lex [] ?_ | (refine isA ?_; refine do_F rfl ?_) | (refine isL ?_; refine lex_F rfl (by kernel_rfl) rfl rfl ?_) | (refine isLg rfl ?_; refine lex_S rfl (by kernel_rfl) rfl rfl ?_) | (refine isAc 157 ?_; refine do_R rfl (st_call rfl (c_ivRow x) (.cons (.same rfl) .nil) rfl) rfl ?_) | (refine isLc 157 rfl ?_; refine lex_R rfl (by kernel_rfl) rfl (st_call rfl (c_ivRow x) (.cons (.same rfl) .nil) rfl) rfl ?_) | refine aops_nil ?_ | refine lex_done _ rfl (by kernel_rfl) ?_ | refine aw_ct rfl ?_ | refine aw_cf rfl ?_ | refine aw_block ?_ | with_reducible refine then_n ?_ | refine aw_skip ?_ | refine aw_exit ?_ | (with_reducible first | refine then_x ?_ | refine then_r ?_ | refine block_x ?_ | refine block_n ?_ | refine block_r ?_) | refine aw_ret ?_
  refine aw_cond rfl (fun h => ?_) (fun h => ?_)
  · have h : vRw x = false := by simpa using h
    repeat' first | refine aw_seq ?_ | refine aw_region ?_ | refine aw_lex [] ?_ | (refine isA ?_; refine do_F rfl ?_) | (refine isL ?_; refine lex_F rfl (by kernel_rfl) rfl rfl ?_) | (refine isLg rfl ?_; refine lex_S rfl (by kernel_rfl) rfl rfl ?_) | exact fin1 rfl rfl (by simp only [costV, h, cond_false]) | refine aops_nil ?_ | refine lex_done _ rfl (by kernel_rfl) ?_ | refine aw_ct rfl ?_ | refine aw_cf rfl ?_ | refine aw_block ?_ | with_reducible refine then_n ?_ | refine aw_skip ?_ | refine aw_exit ?_ | (with_reducible first | refine then_x ?_ | refine then_r ?_ | refine block_x ?_ | refine block_n ?_ | refine block_r ?_) | refine aw_ret ?_
  · have h : vRw x = true := by simpa using h
    have := (vRw_iff.1 h).2.2
    repeat' first | refine aw_seq ?_ | refine aw_region ?_ | refine aw_lex [] ?_ | (refine isA ?_; refine do_F rfl ?_) | (refine isL ?_; refine lex_F rfl (by kernel_rfl) rfl rfl ?_) | (refine isLg rfl ?_; refine lex_S rfl (by kernel_rfl) rfl rfl ?_) | exact fin1 rfl rfl (by simp only [costV, h, cond_true]; refine congrArg I ?_; rw [IntKind.wrap_i64]; omega) | refine aops_nil ?_ | refine lex_done _ rfl (by kernel_rfl) ?_ | refine aw_ct rfl ?_ | refine aw_cf rfl ?_ | refine aw_block ?_ | with_reducible refine then_n ?_ | refine aw_skip ?_ | refine aw_exit ?_ | (with_reducible first | refine then_x ?_ | refine then_r ?_ | refine block_x ?_ | refine block_n ?_ | refine block_r ?_) | refine aw_ret ?_
theorem c_src (x : Rw) : Meets Go.Proofs.Try.prog 115 [.agg (rwE x)] [] (I (costV x)) [] false := by
  refine meets_of [2] Go.Proofs.Try.func115 rfl rfl ?_
  simp only [Go.Proofs.Try.ntmps115, List.length_cons, List.length_nil, Nat.reduceAdd, Nat.reduceSub, List.replicate_succ, List.replicate_zero, List.cons_append, List.nil_append]
  repeat' first | refine aw_seq ?_ | refine aw_region ?_ | refine aw_lex [] ?_ | (refine isA ?_; refine do_F rfl ?_) | (refine isL ?_; refine lex_F rfl (by kernel_rfl) rfl rfl ?_) | (refine isLg rfl ?_; refine lex_S rfl (by kernel_rfl) rfl rfl ?_) | (refine isAc 152 ?_; refine do_R rfl (st_call rfl (c_svRow x) (.cons (.same rfl) .nil) rfl) rfl ?_) | (refine isLc 152 rfl ?_; refine lex_R rfl (by kernel_rfl) rfl (st_call rfl (c_svRow x) (.cons (.same rfl) .nil) rfl) rfl ?_) | refine aops_nil ?_ | refine lex_done _ rfl (by kernel_rfl) ?_ | refine aw_ct rfl ?_ | refine aw_cf rfl ?_ | refine aw_block ?_ | with_reducible refine then_n ?_ | refine aw_skip ?_ | refine aw_exit ?_ | (with_reducible first | refine then_x ?_ | refine then_r ?_ | refine block_x ?_ | refine block_n ?_ | refine block_r ?_) | refine aw_ret ?_
  refine aw_cond rfl (fun h => ?_) (fun h => ?_)
  · have h : vRw x = false := by simpa using h
    repeat' first | refine aw_seq ?_ | refine aw_region ?_ | refine aw_lex [] ?_ | (refine isA ?_; refine do_F rfl ?_) | (refine isL ?_; refine lex_F rfl (by kernel_rfl) rfl rfl ?_) | (refine isLg rfl ?_; refine lex_S rfl (by kernel_rfl) rfl rfl ?_) | exact fin1 rfl rfl (by simp only [costV, h, cond_false]) | refine aops_nil ?_ | refine lex_done _ rfl (by kernel_rfl) ?_ | refine aw_ct rfl ?_ | refine aw_cf rfl ?_ | refine aw_block ?_ | with_reducible refine then_n ?_ | refine aw_skip ?_ | refine aw_exit ?_ | (with_reducible first | refine then_x ?_ | refine then_r ?_ | refine block_x ?_ | refine block_n ?_ | refine block_r ?_) | refine aw_ret ?_
  · have h : vRw x = true := by simpa using h
    have := (vRw_iff.1 h).2.2
    repeat' first | refine aw_seq ?_ | refine aw_region ?_ | refine aw_lex [] ?_ | (refine isA ?_; refine do_F rfl ?_) | (refine isL ?_; refine lex_F rfl (by kernel_rfl) rfl rfl ?_) | (refine isLg rfl ?_; refine lex_S rfl (by kernel_rfl) rfl rfl ?_) | exact fin1 rfl rfl (by simp only [costV, h, cond_true]; refine congrArg I ?_; rw [IntKind.wrap_i64]; omega) | refine aops_nil ?_ | refine lex_done _ rfl (by kernel_rfl) ?_ | refine aw_ct rfl ?_ | refine aw_cf rfl ?_ | refine aw_block ?_ | with_reducible refine then_n ?_ | refine aw_skip ?_ | refine aw_exit ?_ | (with_reducible first | refine then_x ?_ | refine then_r ?_ | refine block_x ?_ | refine block_n ?_ | refine block_r ?_) | refine aw_ret ?_
theorem tot_wrap {xs : List Rw} {i : Nat} {z : Rw} (hz : xs[i]? = some z) (hl : xs.length ≤ 1000000000) : I (totV (xs.take (i + 1))) = I (IntKind.i64.wrap (totV (xs.take i) + costV z)) := by
  have h1 := tot_b (xs.take i)
  have h2 := cost_b z
  have h3 := (List.getElem?_eq_some_iff.1 hz).1
  have h4 : (xs.take i).length ≤ xs.length := by simp; omega
  rw [totV_snoc hz]
  refine congrArg I ?_
  rw [IntKind.wrap_i64]
  omega
theorem c_itot (xs : List Rw) (hl : xs.length ≤ 1000000000) : Meets Go.Proofs.Try.prog 109 [rwL xs] [] (I (totV xs)) [] false := by
  refine meets_of [2] Go.Proofs.Try.func109 rfl rfl ?_
  simp only [Go.Proofs.Try.ntmps109, List.length_cons, List.length_nil, Nat.reduceAdd, Nat.reduceSub, List.replicate_succ, List.replicate_zero, List.cons_append, List.nil_append]
  repeat' first | refine aw_seq ?_ | refine aw_region ?_ | refine aw_lex [] ?_ | (refine isA ?_; refine do_F rfl ?_) | (refine isL ?_; refine lex_F rfl (by kernel_rfl) rfl rfl ?_) | (refine isLg rfl ?_; refine lex_S rfl (by kernel_rfl) rfl rfl ?_) | refine aops_nil ?_ | refine lex_done _ rfl (by kernel_rfl) ?_ | refine aw_ct rfl ?_ | refine aw_cf rfl ?_ | refine aw_block ?_ | with_reducible refine then_n ?_ | refine aw_skip ?_ | refine aw_exit ?_ | (with_reducible first | refine then_x ?_ | refine then_r ?_ | refine block_x ?_ | refine block_n ?_ | refine block_r ?_) | refine aw_ret ?_
  refine aw_loop (α := { i : Nat // i ≤ xs.length }) (fun i => ⟨[.any, .any, .any, I (totV (xs.take i.1)), .any, .any, rwL xs, I xs.length, I i.1, .any, .any, .any, .any, .any, .any, .any, .any, .any], [], 0⟩) (fun i => xs.length - i.1) ⟨0, Nat.zero_le _⟩ ?_ ?_
  · exact sub0 [] rfl rfl (by decide) .nil (by repeat' first | exact les_nil | refine les_cons ?_ ?_ | exact le_any | exact le_refl rfl | exact le_sl rfl rfl | exact le_ptr rfl)
  · rintro ⟨i, hi⟩
    repeat' first | refine aw_seq ?_ | refine aw_region ?_ | refine aw_lex [] ?_ | (refine isA ?_; refine do_F rfl ?_) | (refine isL ?_; refine lex_F rfl (by kernel_rfl) rfl rfl ?_) | (refine isLg rfl ?_; refine lex_S rfl (by kernel_rfl) rfl rfl ?_) | refine aops_nil ?_ | refine lex_done _ rfl (by kernel_rfl) ?_ | refine aw_ct rfl ?_ | refine aw_cf rfl ?_ | refine aw_block ?_ | with_reducible refine then_n ?_ | refine aw_skip ?_ | refine aw_exit ?_ | (with_reducible first | refine then_x ?_ | refine then_r ?_ | refine block_x ?_ | refine block_n ?_ | refine block_r ?_) | refine aw_ret ?_
    refine aw_cond rfl (fun h => ?_) (fun h => ?_)
    · have hlt : i < xs.length := by simpa using h
      obtain ⟨z, hz⟩ : ∃ z, xs[i]? = some z := ⟨_, List.getElem?_eq_getElem hlt⟩
      repeat' first | refine aw_seq ?_ | refine aw_region ?_ | refine aw_lex [] ?_ | (refine isA ?_; refine do_F rfl ?_) | (refine isL ?_; refine lex_F rfl (by kernel_rfl) rfl rfl ?_) | (refine isLg rfl ?_; refine lex_S rfl (by kernel_rfl) rfl rfl ?_) | refine do_R rfl (ia_l (z := z) rfl rfl rfl rfl (Int.natCast_nonneg _) hz) rfl ?_ | refine lex_R rfl (by kernel_rfl) rfl (ia_l (z := z) rfl rfl rfl rfl (Int.natCast_nonneg _) hz) rfl ?_ | (refine isAc 110 ?_; refine do_R rfl (st_call rfl (c_irc z) (.cons (.same rfl) .nil) rfl) rfl ?_) | (refine isLc 110 rfl ?_; refine lex_R rfl (by kernel_rfl) rfl (st_call rfl (c_irc z) (.cons (.same rfl) .nil) rfl) rfl ?_) | refine aops_nil ?_ | refine lex_done _ rfl (by kernel_rfl) ?_ | refine aw_ct rfl ?_ | refine aw_cf rfl ?_ | refine aw_block ?_ | with_reducible refine then_n ?_ | refine aw_skip ?_ | refine aw_exit ?_ | (with_reducible first | refine then_x ?_ | refine then_r ?_ | refine block_x ?_ | refine block_n ?_ | refine block_r ?_) | refine aw_ret ?_
      refine ⟨⟨i + 1, hlt⟩, by simp only; omega, ?_⟩
      exact sub0 [] rfl rfl (by decide) .nil (by
        repeat' first | exact les_nil | refine les_cons ?_ ?_ | exact le_any | exact le_refl rfl | exact le_eq (tot_wrap hz hl).symm rfl | exact le_i (by assumption) (by omega))
    · have hge : i = xs.length := by
        have : ¬ ((i : Int) < xs.length) := by simpa using h
        omega
      subst hge
      repeat' first | refine aw_seq ?_ | refine aw_region ?_ | refine aw_lex [] ?_ | (refine isA ?_; refine do_F rfl ?_) | (refine isL ?_; refine lex_F rfl (by kernel_rfl) rfl rfl ?_) | (refine isLg rfl ?_; refine lex_S rfl (by kernel_rfl) rfl rfl ?_) | exact fin1 rfl rfl (by simp only [List.take_length]) | refine aops_nil ?_ | refine lex_done _ rfl (by kernel_rfl) ?_ | refine aw_ct rfl ?_ | refine aw_cf rfl ?_ | refine aw_block ?_ | with_reducible refine then_n ?_ | refine aw_skip ?_ | refine aw_exit ?_ | (with_reducible first | refine then_x ?_ | refine then_r ?_ | refine block_x ?_ | refine block_n ?_ | refine block_r ?_) | refine aw_ret ?_
theorem c_stot (xs : List Rw) (hl : xs.length ≤ 1000000000) : Meets Go.Proofs.Try.prog 31 [rwL xs] [] (I (totV xs)) [] false := by
  refine meets_of [2] Go.Proofs.Try.func31 rfl rfl ?_
  simp only [Go.Proofs.Try.ntmps31, List.length_cons, List.length_nil, Nat.reduceAdd, Nat.reduceSub, List.replicate_succ, List.replicate_zero, List.cons_append, List.nil_append]
  repeat' first | refine aw_seq ?_ | refine aw_region ?_ | refine aw_lex [] ?_ | (refine isA ?_; refine do_F rfl ?_) | (refine isL ?_; refine lex_F rfl (by kernel_rfl) rfl rfl ?_) | (refine isLg rfl ?_; refine lex_S rfl (by kernel_rfl) rfl rfl ?_) | refine aops_nil ?_ | refine lex_done _ rfl (by kernel_rfl) ?_ | refine aw_ct rfl ?_ | refine aw_cf rfl ?_ | refine aw_block ?_ | with_reducible refine then_n ?_ | refine aw_skip ?_ | refine aw_exit ?_ | (with_reducible first | refine then_x ?_ | refine then_r ?_ | refine block_x ?_ | refine block_n ?_ | refine block_r ?_) | refine aw_ret ?_
  refine aw_loop (α := { i : Nat // i ≤ xs.length }) (fun i => ⟨[rwL xs, .any, .any, I (totV (xs.take i.1)), I i.1, .any, .any, .any, .any, .any, .any, .any, .any, .any, .any, .any, .any, .any, .any], [], 0⟩) (fun i => xs.length - i.1) ⟨0, Nat.zero_le _⟩ ?_ ?_
  · exact sub0 [] rfl rfl (by decide) .nil (by repeat' first | exact les_nil | refine les_cons ?_ ?_ | exact le_any | exact le_refl rfl | exact le_sl rfl rfl | exact le_ptr rfl)
  · rintro ⟨i, hi⟩
    repeat' first | refine aw_seq ?_ | refine aw_region ?_ | refine aw_lex [] ?_ | (refine isA ?_; refine do_F rfl ?_) | (refine isL ?_; refine lex_F rfl (by kernel_rfl) rfl rfl ?_) | (refine isLg rfl ?_; refine lex_S rfl (by kernel_rfl) rfl rfl ?_) | refine aops_nil ?_ | refine lex_done _ rfl (by kernel_rfl) ?_ | refine aw_ct rfl ?_ | refine aw_cf rfl ?_ | refine aw_block ?_ | with_reducible refine then_n ?_ | refine aw_skip ?_ | refine aw_exit ?_ | (with_reducible first | refine then_x ?_ | refine then_r ?_ | refine block_x ?_ | refine block_n ?_ | refine block_r ?_) | refine aw_ret ?_
    refine aw_cond rfl (fun h => ?_) (fun h => ?_)
    · have hlt : i < xs.length := by simpa using h
      obtain ⟨z, hz⟩ : ∃ z, xs[i]? = some z := ⟨_, List.getElem?_eq_getElem hlt⟩
      repeat' first | refine aw_seq ?_ | refine aw_region ?_ | refine aw_lex [] ?_ | (refine isA ?_; refine do_F rfl ?_) | (refine isL ?_; refine lex_F rfl (by kernel_rfl) rfl rfl ?_) | (refine isLg rfl ?_; refine lex_S rfl (by kernel_rfl) rfl rfl ?_) | refine do_R rfl (ia_l (z := z) rfl rfl rfl rfl (Int.natCast_nonneg _) hz) rfl ?_ | refine lex_R rfl (by kernel_rfl) rfl (ia_l (z := z) rfl rfl rfl rfl (Int.natCast_nonneg _) hz) rfl ?_ | (refine isAc 115 ?_; refine do_R rfl (st_call rfl (c_src z) (.cons (.same rfl) .nil) rfl) rfl ?_) | (refine isLc 115 rfl ?_; refine lex_R rfl (by kernel_rfl) rfl (st_call rfl (c_src z) (.cons (.same rfl) .nil) rfl) rfl ?_) | refine aops_nil ?_ | refine lex_done _ rfl (by kernel_rfl) ?_ | refine aw_ct rfl ?_ | refine aw_cf rfl ?_ | refine aw_block ?_ | with_reducible refine then_n ?_ | refine aw_skip ?_ | refine aw_exit ?_ | (with_reducible first | refine then_x ?_ | refine then_r ?_ | refine block_x ?_ | refine block_n ?_ | refine block_r ?_) | refine aw_ret ?_
      refine ⟨⟨i + 1, hlt⟩, by simp only; omega, ?_⟩
      exact sub0 [] rfl rfl (by decide) .nil (by
        repeat' first | exact les_nil | refine les_cons ?_ ?_ | exact le_any | exact le_refl rfl | exact le_eq (tot_wrap hz hl).symm rfl | exact le_i (by assumption) (by omega))
    · have hge : i = xs.length := by
        have : ¬ ((i : Int) < xs.length) := by simpa using h
        omega
      subst hge
      repeat' first | refine aw_seq ?_ | refine aw_region ?_ | refine aw_lex [] ?_ | (refine isA ?_; refine do_F rfl ?_) | (refine isL ?_; refine lex_F rfl (by kernel_rfl) rfl rfl ?_) | (refine isLg rfl ?_; refine lex_S rfl (by kernel_rfl) rfl rfl ?_) | exact fin1 rfl rfl (by simp only [List.take_length]) | refine aops_nil ?_ | refine lex_done _ rfl (by kernel_rfl) ?_ | refine aw_ct rfl ?_ | refine aw_cf rfl ?_ | refine aw_block ?_ | with_reducible refine then_n ?_ | refine aw_skip ?_ | refine aw_exit ?_ | (with_reducible first | refine then_x ?_ | refine then_r ?_ | refine block_x ?_ | refine block_n ?_ | refine block_r ?_) | refine aw_ret ?_

/-! ### In order -/
theorem iso_take {xs : List Rw} {i : Nat} {z y : Rw} (h : Srt (xs.take (i + 1))) (hz : xs[i + 1]? = some z) (hy : xs[i]? = some y) (hle : leW y z) : Srt (xs.take (i + 2)) := by
  rw [take_snoc hz]
  refine List.pairwise_append.2 ⟨h, List.pairwise_singleton _ _, fun a ha c hc => ?_⟩
  have hc' : c = z := by simpa using hc
  subst hc'
  obtain ⟨j, hj⟩ := List.getElem?_of_mem ha
  have hlt := (List.getElem?_eq_some_iff.1 hj).1
  simp only [List.length_take] at hlt
  have hy' : (xs.take (i + 1))[i]? = some y := by rw [List.getElem?_take_of_lt (by omega)]; exact hy
  exact leW_trans (srt_le h (show j ≤ i by omega) hj hy') hle
theorem iso_no {xs : List Rw} {i : Nat} {z y : Rw} (hz : xs[i + 1]? = some z) (hy : xs[i]? = some y) (hle : ¬ leW y z) : isoV xs = false := by
  refine decide_eq_false fun h => hle ?_
  exact srt_le h (Nat.le_succ i) hy hz
theorem iso_yes {xs : List Rw} {i : Nat} (h : Srt (xs.take i)) (hi : xs.length ≤ i) : isoV xs = true := by
  rw [List.take_of_length_le hi] at h
  exact decide_eq_true h
theorem srt_one (xs : List Rw) : Srt (xs.take 1) := by
  cases xs with
  | nil => exact List.Pairwise.nil
  | cons x xs => exact List.pairwise_singleton _ _
theorem c_iiso (xs : List Rw) (hl : xs.length ≤ 1000000000) : Meets Go.Proofs.Try.prog 53 [rwL xs] [] (B (isoV xs)) [] false := by
  refine meets_of [2] Go.Proofs.Try.func53 rfl rfl ?_
  simp only [Go.Proofs.Try.ntmps53, List.length_cons, List.length_nil, Nat.reduceAdd, Nat.reduceSub, List.replicate_succ, List.replicate_zero, List.cons_append, List.nil_append]
  repeat' first | refine aw_seq ?_ | refine aw_region ?_ | refine aw_lex [] ?_ | (refine isA ?_; refine do_F rfl ?_) | (refine isL ?_; refine lex_F rfl (by kernel_rfl) rfl rfl ?_) | (refine isLg rfl ?_; refine lex_S rfl (by kernel_rfl) rfl rfl ?_) | refine aops_nil ?_ | refine lex_done _ rfl (by kernel_rfl) ?_ | refine aw_ct rfl ?_ | refine aw_cf rfl ?_ | refine aw_block ?_ | with_reducible refine then_n ?_ | refine aw_skip ?_ | refine aw_exit ?_ | (with_reducible first | refine then_x ?_ | refine then_r ?_ | refine block_x ?_ | refine block_n ?_ | refine block_r ?_) | refine aw_ret ?_
  refine aw_loop (α := { i : Nat // Srt (xs.take (i + 1)) }) (fun i => ⟨[rwL xs, .any, .any, I ((i.1 + 1 : Nat) : Int), .any, .any, .any, .any, .any, .any, .any, .any, .any, .any, .any, .any, .any, .any, .any, .any, .any], [], 0⟩) (fun i => xs.length - i.1) ⟨0, srt_one xs⟩ ?_ ?_
  · exact sub0 [] rfl rfl (by decide) .nil (by repeat' first | exact les_nil | refine les_cons ?_ ?_ | exact le_any | exact le_refl rfl | exact le_sl rfl rfl | exact le_ptr rfl)
  · rintro ⟨i, hi⟩
    repeat' first | refine aw_seq ?_ | refine aw_region ?_ | refine aw_lex [] ?_ | (refine isA ?_; refine do_F rfl ?_) | (refine isL ?_; refine lex_F rfl (by kernel_rfl) rfl rfl ?_) | (refine isLg rfl ?_; refine lex_S rfl (by kernel_rfl) rfl rfl ?_) | refine aops_nil ?_ | refine lex_done _ rfl (by kernel_rfl) ?_ | refine aw_ct rfl ?_ | refine aw_cf rfl ?_ | refine aw_block ?_ | with_reducible refine then_n ?_ | refine aw_skip ?_ | refine aw_exit ?_ | (with_reducible first | refine then_x ?_ | refine then_r ?_ | refine block_x ?_ | refine block_n ?_ | refine block_r ?_) | refine aw_ret ?_
    refine aw_cond rfl (fun h => ?_) (fun h => ?_)
    · have hlt : i + 1 < xs.length := by have := of_decide_eq_true h; simp only at this; omega
      obtain ⟨z, hz⟩ : ∃ z, xs[i + 1]? = some z := ⟨_, List.getElem?_eq_getElem hlt⟩
      obtain ⟨y, hy⟩ : ∃ z, xs[i]? = some z := ⟨_, List.getElem?_eq_getElem (by omega)⟩
      have ew : IntKind.i64.wrap (((i + 1 : Nat) : Int) - 1) = ((i : Nat) : Int) := by rw [IntKind.wrap_i64]; omega
      repeat' first | refine aw_seq ?_ | refine aw_region ?_ | refine aw_lex [] ?_ | (refine isA ?_; refine do_F rfl ?_) | (refine isL ?_; refine lex_F rfl (by kernel_rfl) rfl rfl ?_) | (refine isLg rfl ?_; refine lex_S rfl (by kernel_rfl) rfl rfl ?_) | (refine isAi (x := .tmp 10) ?_; refine do_R rfl (ia_l (t := rwT) (z := z) rfl rfl rfl rfl (Int.natCast_nonneg _) hz) rfl ?_) | (refine isLi (x := .tmp 10) rfl ?_; refine lex_R rfl (by kernel_rfl) rfl (ia_l (t := rwT) (z := z) rfl rfl rfl rfl (Int.natCast_nonneg _) hz) rfl ?_) | (refine isAi (x := .tmp 14) ?_; refine do_R rfl (ia_l (t := rwT) (j := ((i : Nat) : Int)) (z := y) rfl rfl rfl (congrArg I ew) (Int.natCast_nonneg _) hy) rfl ?_) | (refine isLi (x := .tmp 14) rfl ?_; refine lex_R rfl (by kernel_rfl) rfl (ia_l (t := rwT) (j := ((i : Nat) : Int)) (z := y) rfl rfl rfl (congrArg I ew) (Int.natCast_nonneg _) hy) rfl ?_) | (refine isAc 122 ?_; refine do_R rfl (st_call rfl (c_icmp z y) (.cons (.same rfl) (.cons (.same rfl) .nil)) rfl) rfl ?_) | (refine isLc 122 rfl ?_; refine lex_R rfl (by kernel_rfl) rfl (st_call rfl (c_icmp z y) (.cons (.same rfl) (.cons (.same rfl) .nil)) rfl) rfl ?_) | refine aops_nil ?_ | refine lex_done _ rfl (by kernel_rfl) ?_ | refine aw_ct rfl ?_ | refine aw_cf rfl ?_ | refine aw_block ?_ | with_reducible refine then_n ?_ | refine aw_skip ?_ | refine aw_exit ?_ | (with_reducible first | refine then_x ?_ | refine then_r ?_ | refine block_x ?_ | refine block_n ?_ | refine block_r ?_) | refine aw_ret ?_
      refine aw_cond rfl (fun p => ?_) (fun p => ?_)
      · have e := iso_no hz hy (cmp_neg.1 (of_decide_eq_true p))
        repeat' first | refine aw_seq ?_ | refine aw_region ?_ | refine aw_lex [] ?_ | (refine isA ?_; refine do_F rfl ?_) | (refine isL ?_; refine lex_F rfl (by kernel_rfl) rfl rfl ?_) | (refine isLg rfl ?_; refine lex_S rfl (by kernel_rfl) rfl rfl ?_) | exact fin1 rfl rfl (by rw [e]) | refine aops_nil ?_ | refine lex_done _ rfl (by kernel_rfl) ?_ | refine aw_ct rfl ?_ | refine aw_cf rfl ?_ | refine aw_block ?_ | with_reducible refine then_n ?_ | refine aw_skip ?_ | refine aw_exit ?_ | (with_reducible first | refine then_x ?_ | refine then_r ?_ | refine block_x ?_ | refine block_n ?_ | refine block_r ?_) | refine aw_ret ?_
      · have q : leW y z := Classical.byContradiction fun hn => absurd (cmp_neg.2 hn) (of_decide_eq_false p)
        repeat' first | refine aw_seq ?_ | refine aw_region ?_ | refine aw_lex [] ?_ | (refine isA ?_; refine do_F rfl ?_) | (refine isL ?_; refine lex_F rfl (by kernel_rfl) rfl rfl ?_) | (refine isLg rfl ?_; refine lex_S rfl (by kernel_rfl) rfl rfl ?_) | refine aops_nil ?_ | refine lex_done _ rfl (by kernel_rfl) ?_ | refine aw_ct rfl ?_ | refine aw_cf rfl ?_ | refine aw_block ?_ | with_reducible refine then_n ?_ | refine aw_skip ?_ | refine aw_exit ?_ | (with_reducible first | refine then_x ?_ | refine then_r ?_ | refine block_x ?_ | refine block_n ?_ | refine block_r ?_) | refine aw_ret ?_
        refine ⟨⟨i + 1, iso_take hi hz hy q⟩, by simp only; omega, ?_⟩
        exact sub0 [] rfl rfl (by decide) .nil (by
          repeat' first | exact les_nil | refine les_cons ?_ ?_ | exact le_any | exact le_refl rfl | exact le_k (congrArg _ (show ((i + 1 + 1 : Nat) : Int) = IntKind.i64.wrap (((i + 1 : Nat) : Int) + 1) by rw [IntKind.wrap_i64]; omega)))
    · have e := iso_yes hi (by have := of_decide_eq_false h; simp only at this; omega)
      repeat' first | refine aw_seq ?_ | refine aw_region ?_ | refine aw_lex [] ?_ | (refine isA ?_; refine do_F rfl ?_) | (refine isL ?_; refine lex_F rfl (by kernel_rfl) rfl rfl ?_) | (refine isLg rfl ?_; refine lex_S rfl (by kernel_rfl) rfl rfl ?_) | exact fin1 rfl rfl (by rw [e]) | refine aops_nil ?_ | refine lex_done _ rfl (by kernel_rfl) ?_ | refine aw_ct rfl ?_ | refine aw_cf rfl ?_ | refine aw_block ?_ | with_reducible refine then_n ?_ | refine aw_skip ?_ | refine aw_exit ?_ | (with_reducible first | refine then_x ?_ | refine then_r ?_ | refine block_x ?_ | refine block_n ?_ | refine block_r ?_) | refine aw_ret ?_
theorem c_siso (xs : List Rw) (hl : xs.length ≤ 1000000000) : Meets Go.Proofs.Try.prog 52 [rwL xs] [] (B (isoV xs)) [] false := by
  refine meets_of [2] Go.Proofs.Try.func52 rfl rfl ?_
  simp only [Go.Proofs.Try.ntmps52, List.length_cons, List.length_nil, Nat.reduceAdd, Nat.reduceSub, List.replicate_succ, List.replicate_zero, List.cons_append, List.nil_append]
  repeat' first | refine aw_seq ?_ | refine aw_region ?_ | refine aw_lex [] ?_ | (refine isA ?_; refine do_F rfl ?_) | (refine isL ?_; refine lex_F rfl (by kernel_rfl) rfl rfl ?_) | (refine isLg rfl ?_; refine lex_S rfl (by kernel_rfl) rfl rfl ?_) | refine aops_nil ?_ | refine lex_done _ rfl (by kernel_rfl) ?_ | refine aw_ct rfl ?_ | refine aw_cf rfl ?_ | refine aw_block ?_ | with_reducible refine then_n ?_ | refine aw_skip ?_ | refine aw_exit ?_ | (with_reducible first | refine then_x ?_ | refine then_r ?_ | refine block_x ?_ | refine block_n ?_ | refine block_r ?_) | refine aw_ret ?_
  refine aw_loop (α := { i : Nat // Srt (xs.take (i + 1)) }) (fun i => ⟨[rwL xs, .any, .any, I ((i.1 + 1 : Nat) : Int), .any, .any, .any, .any, .any, .any, .any, .any, .any, .any, .any, .any, .any, .any, .any, .any, .any], [], 0⟩) (fun i => xs.length - i.1) ⟨0, srt_one xs⟩ ?_ ?_
  · exact sub0 [] rfl rfl (by decide) .nil (by repeat' first | exact les_nil | refine les_cons ?_ ?_ | exact le_any | exact le_refl rfl | exact le_sl rfl rfl | exact le_ptr rfl)
  · rintro ⟨i, hi⟩
    repeat' first | refine aw_seq ?_ | refine aw_region ?_ | refine aw_lex [] ?_ | (refine isA ?_; refine do_F rfl ?_) | (refine isL ?_; refine lex_F rfl (by kernel_rfl) rfl rfl ?_) | (refine isLg rfl ?_; refine lex_S rfl (by kernel_rfl) rfl rfl ?_) | refine aops_nil ?_ | refine lex_done _ rfl (by kernel_rfl) ?_ | refine aw_ct rfl ?_ | refine aw_cf rfl ?_ | refine aw_block ?_ | with_reducible refine then_n ?_ | refine aw_skip ?_ | refine aw_exit ?_ | (with_reducible first | refine then_x ?_ | refine then_r ?_ | refine block_x ?_ | refine block_n ?_ | refine block_r ?_) | refine aw_ret ?_
    refine aw_cond rfl (fun h => ?_) (fun h => ?_)
    · have hlt : i + 1 < xs.length := by have := of_decide_eq_true h; simp only at this; omega
      obtain ⟨z, hz⟩ : ∃ z, xs[i + 1]? = some z := ⟨_, List.getElem?_eq_getElem hlt⟩
      obtain ⟨y, hy⟩ : ∃ z, xs[i]? = some z := ⟨_, List.getElem?_eq_getElem (by omega)⟩
      have ew : IntKind.i64.wrap (((i + 1 : Nat) : Int) - 1) = ((i : Nat) : Int) := by rw [IntKind.wrap_i64]; omega
      repeat' first | refine aw_seq ?_ | refine aw_region ?_ | refine aw_lex [] ?_ | (refine isA ?_; refine do_F rfl ?_) | (refine isL ?_; refine lex_F rfl (by kernel_rfl) rfl rfl ?_) | (refine isLg rfl ?_; refine lex_S rfl (by kernel_rfl) rfl rfl ?_) | (refine isAi (x := .tmp 15) ?_; refine do_R rfl (ia_l (t := rwT) (z := z) rfl rfl rfl rfl (Int.natCast_nonneg _) hz) rfl ?_) | (refine isLi (x := .tmp 15) rfl ?_; refine lex_R rfl (by kernel_rfl) rfl (ia_l (t := rwT) (z := z) rfl rfl rfl rfl (Int.natCast_nonneg _) hz) rfl ?_) | (refine isAi (x := .tmp 10) ?_; refine do_R rfl (ia_l (t := rwT) (j := ((i : Nat) : Int)) (z := y) rfl rfl rfl (congrArg I ew) (Int.natCast_nonneg _) hy) rfl ?_) | (refine isLi (x := .tmp 10) rfl ?_; refine lex_R rfl (by kernel_rfl) rfl (ia_l (t := rwT) (j := ((i : Nat) : Int)) (z := y) rfl rfl rfl (congrArg I ew) (Int.natCast_nonneg _) hy) rfl ?_) | (refine isAc 116 ?_; refine do_R rfl (st_call rfl (c_scmp y z) (.cons (.same rfl) (.cons (.same rfl) .nil)) rfl) rfl ?_) | (refine isLc 116 rfl ?_; refine lex_R rfl (by kernel_rfl) rfl (st_call rfl (c_scmp y z) (.cons (.same rfl) (.cons (.same rfl) .nil)) rfl) rfl ?_) | refine aops_nil ?_ | refine lex_done _ rfl (by kernel_rfl) ?_ | refine aw_ct rfl ?_ | refine aw_cf rfl ?_ | refine aw_block ?_ | with_reducible refine then_n ?_ | refine aw_skip ?_ | refine aw_exit ?_ | (with_reducible first | refine then_x ?_ | refine then_r ?_ | refine block_x ?_ | refine block_n ?_ | refine block_r ?_) | refine aw_ret ?_
      refine aw_cond rfl (fun p => ?_) (fun p => ?_)
      · have e := iso_no hz hy (fun h => by have h : cmpV y z ≤ 0 := h; have := of_decide_eq_true p; omega)
        repeat' first | refine aw_seq ?_ | refine aw_region ?_ | refine aw_lex [] ?_ | (refine isA ?_; refine do_F rfl ?_) | (refine isL ?_; refine lex_F rfl (by kernel_rfl) rfl rfl ?_) | (refine isLg rfl ?_; refine lex_S rfl (by kernel_rfl) rfl rfl ?_) | exact fin1 rfl rfl (by rw [e]) | refine aops_nil ?_ | refine lex_done _ rfl (by kernel_rfl) ?_ | refine aw_ct rfl ?_ | refine aw_cf rfl ?_ | refine aw_block ?_ | with_reducible refine then_n ?_ | refine aw_skip ?_ | refine aw_exit ?_ | (with_reducible first | refine then_x ?_ | refine then_r ?_ | refine block_x ?_ | refine block_n ?_ | refine block_r ?_) | refine aw_ret ?_
      · have q : leW y z := by show cmpV y z ≤ 0; have := of_decide_eq_false p; omega
        repeat' first | refine aw_seq ?_ | refine aw_region ?_ | refine aw_lex [] ?_ | (refine isA ?_; refine do_F rfl ?_) | (refine isL ?_; refine lex_F rfl (by kernel_rfl) rfl rfl ?_) | (refine isLg rfl ?_; refine lex_S rfl (by kernel_rfl) rfl rfl ?_) | refine aops_nil ?_ | refine lex_done _ rfl (by kernel_rfl) ?_ | refine aw_ct rfl ?_ | refine aw_cf rfl ?_ | refine aw_block ?_ | with_reducible refine then_n ?_ | refine aw_skip ?_ | refine aw_exit ?_ | (with_reducible first | refine then_x ?_ | refine then_r ?_ | refine block_x ?_ | refine block_n ?_ | refine block_r ?_) | refine aw_ret ?_
        refine ⟨⟨i + 1, iso_take hi hz hy q⟩, by simp only; omega, ?_⟩
        exact sub0 [] rfl rfl (by decide) .nil (by
          repeat' first | exact les_nil | refine les_cons ?_ ?_ | exact le_any | exact le_refl rfl | exact le_k (congrArg _ (show ((i + 1 + 1 : Nat) : Int) = IntKind.i64.wrap (((i + 1 : Nat) : Int) + 1) by rw [IntKind.wrap_i64]; omega)))
    · have e := iso_yes hi (by have := of_decide_eq_false h; simp only at this; omega)
      repeat' first | refine aw_seq ?_ | refine aw_region ?_ | refine aw_lex [] ?_ | (refine isA ?_; refine do_F rfl ?_) | (refine isL ?_; refine lex_F rfl (by kernel_rfl) rfl rfl ?_) | (refine isLg rfl ?_; refine lex_S rfl (by kernel_rfl) rfl rfl ?_) | exact fin1 rfl rfl (by rw [e]) | refine aops_nil ?_ | refine lex_done _ rfl (by kernel_rfl) ?_ | refine aw_ct rfl ?_ | refine aw_cf rfl ?_ | refine aw_block ?_ | with_reducible refine then_n ?_ | refine aw_skip ?_ | refine aw_exit ?_ | (with_reducible first | refine then_x ?_ | refine then_r ?_ | refine block_x ?_ | refine block_n ?_ | refine block_r ?_) | refine aw_ret ?_

/-! ### Before the last -/
theorem c_below (x : Rw) (out : List Rw) (hl : out.length ≤ 1000000000) : Meets Go.Proofs.Try.prog 111 [.agg (rwE x), rwL out] [] (B (bel x out)) [] false := by
  rcases Nat.eq_zero_or_pos out.length with h0 | h0
  · rw [List.eq_nil_of_length_eq_zero h0]
    refine meets_of [4] Go.Proofs.Try.func111 rfl rfl ?_
    simp only [Go.Proofs.Try.ntmps111, List.length_cons, List.length_nil, Nat.reduceAdd, Nat.reduceSub, List.replicate_succ, List.replicate_zero, List.cons_append, List.nil_append]
    repeat' first | refine aw_seq ?_ | refine aw_region ?_ | refine aw_lex [] ?_ | (refine isA ?_; refine do_F rfl ?_) | (refine isL ?_; refine lex_F rfl (by kernel_rfl) rfl rfl ?_) | (refine isLg rfl ?_; refine lex_S rfl (by kernel_rfl) rfl rfl ?_) | exact fin1 rfl rfl rfl | refine aops_nil ?_ | refine lex_done _ rfl (by kernel_rfl) ?_ | refine aw_ct rfl ?_ | refine aw_cf rfl ?_ | refine aw_block ?_ | with_reducible refine then_n ?_ | refine aw_skip ?_ | refine aw_exit ?_ | (with_reducible first | refine then_x ?_ | refine then_r ?_ | refine block_x ?_ | refine block_n ?_ | refine block_r ?_) | refine aw_ret ?_
  · obtain ⟨y, hy⟩ : ∃ z, out[out.length - 1]? = some z := ⟨_, List.getElem?_eq_getElem (by omega)⟩
    have ew : IntKind.i64.wrap ((out.length : Int) - 1) = ((out.length - 1 : Nat) : Int) := by rw [IntKind.wrap_i64]; omega
    have e : bel x out = decide (cmpV x y < 0) := by unfold bel; rw [hy]; rfl
    refine meets_of [4] Go.Proofs.Try.func111 rfl rfl ?_
    simp only [Go.Proofs.Try.ntmps111, List.length_cons, List.length_nil, Nat.reduceAdd, Nat.reduceSub, List.replicate_succ, List.replicate_zero, List.cons_append, List.nil_append]
    repeat' first | refine aw_seq ?_ | refine aw_region ?_ | refine aw_lex [] ?_ | (refine isA ?_; refine do_F rfl ?_) | (refine isL ?_; refine lex_F rfl (by kernel_rfl) rfl rfl ?_) | (refine isLg rfl ?_; refine lex_S rfl (by kernel_rfl) rfl rfl ?_) | refine aops_nil ?_ | refine lex_done _ rfl (by kernel_rfl) ?_ | refine aw_ct rfl ?_ | refine aw_cf rfl ?_ | refine aw_block ?_ | with_reducible refine then_n ?_ | refine aw_skip ?_ | refine aw_exit ?_ | (with_reducible first | refine then_x ?_ | refine then_r ?_ | refine block_x ?_ | refine block_n ?_ | refine block_r ?_) | refine aw_ret ?_
    refine lex_br rfl rfl rfl rfl (fun p1 => ?_) (fun p1 => absurd (of_decide_eq_false p1) (by omega))
    repeat' first | refine aw_seq ?_ | refine aw_region ?_ | refine aw_lex [] ?_ | (refine isA ?_; refine do_F rfl ?_) | (refine isL ?_; refine lex_F rfl (by kernel_rfl) rfl rfl ?_) | (refine isLg rfl ?_; refine lex_S rfl (by kernel_rfl) rfl rfl ?_) | (refine isAi ?_; refine do_R rfl (ia_l (t := rwT) (j := ((out.length - 1 : Nat) : Int)) (z := y) rfl rfl rfl (congrArg I ew) (Int.natCast_nonneg _) hy) rfl ?_) | (refine isLi rfl ?_; refine lex_R rfl (by kernel_rfl) rfl (ia_l (t := rwT) (j := ((out.length - 1 : Nat) : Int)) (z := y) rfl rfl rfl (congrArg I ew) (Int.natCast_nonneg _) hy) rfl ?_) | (refine isAc 122 ?_; refine do_R rfl (st_call rfl (c_icmp x y) (.cons (.same rfl) (.cons (.same rfl) .nil)) rfl) rfl ?_) | (refine isLc 122 rfl ?_; refine lex_R rfl (by kernel_rfl) rfl (st_call rfl (c_icmp x y) (.cons (.same rfl) (.cons (.same rfl) .nil)) rfl) rfl ?_) | exact fin1 rfl rfl (by rw [e]) | refine aops_nil ?_ | refine lex_done _ rfl (by kernel_rfl) ?_ | refine aw_ct rfl ?_ | refine aw_cf rfl ?_ | refine aw_block ?_ | with_reducible refine then_n ?_ | refine aw_skip ?_ | refine aw_exit ?_ | (with_reducible first | refine then_x ?_ | refine then_r ?_ | refine block_x ?_ | refine block_n ?_ | refine block_r ?_) | refine aw_ret ?_
end Go.Proofs.Ytkcicbigpbdjpaa.Ab

/- SqB0 -/
namespace Go.Proofs.Ytkcicbigpbdjpaa.Ab
open Go.RowKit

/-! ### Runs -/
def runB (r : Rn) : Bool := !decide (r.length = 0) && (isoV r && avR r)
theorem avS_no {rs : List Rn} {i : Nat} {z : Rn} (hz : rs[i]? = some z) (h : runB z = false) : avS rs = false := by
  cases e : avS rs with
  | false => rfl
  | true =>
    have := List.all_eq_true.1 e z (List.mem_of_getElem? hz)
    rw [show (!decide (z.length = 0) && (isoV z && avR z)) = runB z from rfl, h] at this
    cases this
theorem avS_yes {rs : List Rn} (h : ∀ j z, j < rs.length → rs[j]? = some z → runB z = true) : avS rs = true := List.all_eq_true.2 fun z hz => by
  obtain ⟨j, hj⟩ := List.getElem?_of_mem hz
  exact h j z (List.getElem?_eq_some_iff.1 hj).1 hj
theorem runB_e {z : Rn} : runB z = (!decide ((z.length : Int) = 0) && (isoV z && avR z)) := by
  unfold runB
  congr 2
  exact decide_eq_decide.2 (by omega)
theorem step_all {rs : List Rn} {i : Nat} {z : Rn} (hb : ∀ j z, j < i → rs[j]? = some z → runB z = true) (hz : rs[i]? = some z) (h : runB z = true) : ∀ j z, j < i + 1 → rs[j]? = some z → runB z = true := fun j y hj hy => by
  rcases Nat.lt_or_ge j i with hlt | hge
  · exact hb j y hlt hy
  · obtain rfl : j = i := by omega
    rw [hz] at hy
    cases hy
    exact h
theorem c_iavS (rs : List Rn) (hok : okRn rs) : Meets Go.Proofs.Try.prog 22 [rnL rs] [] (B (avS rs)) [] false := by
  have hl := hok.1
  refine meets_of [2] Go.Proofs.Try.func22 rfl rfl ?_
  simp only [Go.Proofs.Try.ntmps22, List.length_cons, List.length_nil, Nat.reduceAdd, Nat.reduceSub, List.replicate_succ, List.replicate_zero, List.cons_append, List.nil_append]
  repeat' first | refine aw_seq ?_ | refine aw_region ?_ | refine aw_lex [] ?_ | (refine isA ?_; refine do_F rfl ?_) | (refine isL ?_; refine lex_F rfl (by kernel_rfl) rfl rfl ?_) | (refine isLg rfl ?_; refine lex_S rfl (by kernel_rfl) rfl rfl ?_) | refine aops_nil ?_ | refine lex_done _ rfl (by kernel_rfl) ?_ | refine aw_ct rfl ?_ | refine aw_cf rfl ?_ | refine aw_block ?_ | with_reducible refine then_n ?_ | refine aw_skip ?_ | refine aw_exit ?_ | (with_reducible first | refine then_x ?_ | refine then_r ?_ | refine block_x ?_ | refine block_n ?_ | refine block_r ?_) | refine aw_ret ?_
  refine aw_loop (α := { i : Nat // i ≤ rs.length ∧ ∀ j z, j < i → rs[j]? = some z → runB z = true }) (fun i => ⟨[.any, .any, .any, .any, .any, rnL rs, I rs.length, I i.1, .any, .any, .any, .any, .any, .any, .any, .any, .any, .any, .any, .any, .any, .any, .any, .any, .any, .any, .any, .any], [], 0⟩) (fun i => rs.length - i.1) ⟨0, Nat.zero_le _, fun j z h => absurd h (Nat.not_lt_zero j)⟩ ?_ ?_
  · exact sub0 [] rfl rfl (by decide) .nil (by repeat' first | exact les_nil | refine les_cons ?_ ?_ | exact le_any | exact le_refl rfl | exact le_sl rfl rfl | exact le_ptr rfl)
  · rintro ⟨i, hi, hb⟩
    repeat' first | refine aw_seq ?_ | refine aw_region ?_ | refine aw_lex [] ?_ | (refine isA ?_; refine do_F rfl ?_) | (refine isL ?_; refine lex_F rfl (by kernel_rfl) rfl rfl ?_) | (refine isLg rfl ?_; refine lex_S rfl (by kernel_rfl) rfl rfl ?_) | refine aops_nil ?_ | refine lex_done _ rfl (by kernel_rfl) ?_ | refine aw_ct rfl ?_ | refine aw_cf rfl ?_ | refine aw_block ?_ | with_reducible refine then_n ?_ | refine aw_skip ?_ | refine aw_exit ?_ | (with_reducible first | refine then_x ?_ | refine then_r ?_ | refine block_x ?_ | refine block_n ?_ | refine block_r ?_) | refine aw_ret ?_
    refine aw_cond rfl (fun h => ?_) (fun h => ?_)
    · have hlt : i < rs.length := by simpa using h
      obtain ⟨z, hz⟩ : ∃ z, rs[i]? = some z := ⟨_, List.getElem?_eq_getElem hlt⟩
      have zl := hok.at hz
      have hno := avS_no hz
      have hyes := step_all hb hz
      rw [runB_e] at hno hyes
      have c1 := c_iiso z zl
      have c2 := c_iavR z zl
      generalize isoV z = p at hno hyes c1
      generalize avR z = q at hno hyes c2
      repeat' first | refine aw_seq ?_ | refine aw_region ?_ | refine aw_lex [] ?_ | (refine isA ?_; refine do_F rfl ?_) | (refine isL ?_; refine lex_F rfl (by kernel_rfl) rfl rfl ?_) | (refine isLg rfl ?_; refine lex_S rfl (by kernel_rfl) rfl rfl ?_) | (refine isAi ?_; refine do_R rfl (ia_l (t := rnT) (z := z) rfl rfl rfl rfl (Int.natCast_nonneg i) hz) rfl ?_) | (refine isLi rfl ?_; refine lex_R rfl (by kernel_rfl) rfl (ia_l (t := rnT) (z := z) rfl rfl rfl rfl (Int.natCast_nonneg i) hz) rfl ?_) | (refine isAc 53 ?_; refine do_R rfl (st_call rfl c1 (.cons (.same rfl) .nil) rfl) rfl ?_) | (refine isLc 53 rfl ?_; refine lex_R rfl (by kernel_rfl) rfl (st_call rfl c1 (.cons (.same rfl) .nil) rfl) rfl ?_) | (refine isAc 107 ?_; refine do_R rfl (st_call rfl c2 (.cons (.same rfl) .nil) rfl) rfl ?_) | (refine isLc 107 rfl ?_; refine lex_R rfl (by kernel_rfl) rfl (st_call rfl c2 (.cons (.same rfl) .nil) rfl) rfl ?_) | refine aops_nil ?_ | refine lex_done _ rfl (by kernel_rfl) ?_ | refine aw_ct rfl ?_ | refine aw_cf rfl ?_ | refine aw_block ?_ | with_reducible refine then_n ?_ | refine aw_skip ?_ | refine aw_exit ?_ | (with_reducible first | refine then_x ?_ | refine then_r ?_ | refine block_x ?_ | refine block_n ?_ | refine block_r ?_) | refine aw_ret ?_ | refine aw_cond rfl (fun hbr => ?_) (fun hbr => ?_) | (refine isAg ?_; refine do_br rfl rfl (fun hbr => ?_) (fun hbr => ?_) <;> (fail_if_success (with_reducible (have hx : true = true := hbr))) <;> (fail_if_success (with_reducible (have hx : false = false := hbr)))) | (refine isLg rfl ?_; refine lex_br rfl rfl rfl rfl (fun hbr => ?_) (fun hbr => ?_) <;> (fail_if_success (with_reducible (have hx : true = true := hbr))) <;> (fail_if_success (with_reducible (have hx : false = false := hbr))))
      all_goals first
        | exact fin1 rfl rfl (congrArg B (hno (by simp_all)).symm)
        | (refine ⟨⟨i + 1, hlt, hyes (by simp_all)⟩, by simp only; omega, ?_⟩; exact sub0 [] rfl rfl (by decide) .nil (by repeat' first | exact les_nil | refine les_cons ?_ ?_ | exact le_any | exact le_refl rfl | exact le_sl rfl rfl | exact le_ptr rfl | exact le_i (by assumption) (by omega)))
    · have hge : i = rs.length := by
        have : ¬ ((i : Int) < rs.length) := by simpa using h
        omega
      subst hge
      repeat' first | refine aw_seq ?_ | refine aw_region ?_ | refine aw_lex [] ?_ | (refine isA ?_; refine do_F rfl ?_) | (refine isL ?_; refine lex_F rfl (by kernel_rfl) rfl rfl ?_) | (refine isLg rfl ?_; refine lex_S rfl (by kernel_rfl) rfl rfl ?_) | exact fin1 rfl rfl (by rw [avS_yes hb]) | refine aops_nil ?_ | refine lex_done _ rfl (by kernel_rfl) ?_ | refine aw_ct rfl ?_ | refine aw_cf rfl ?_ | refine aw_block ?_ | with_reducible refine then_n ?_ | refine aw_skip ?_ | refine aw_exit ?_ | (with_reducible first | refine then_x ?_ | refine then_r ?_ | refine block_x ?_ | refine block_n ?_ | refine block_r ?_) | refine aw_ret ?_
theorem c_savS (rs : List Rn) (hok : okRn rs) : Meets Go.Proofs.Try.prog 23 [rnL rs] [] (B (avS rs)) [] false := by
  have hl := hok.1
  refine meets_of [2] Go.Proofs.Try.func23 rfl rfl ?_
  simp only [Go.Proofs.Try.ntmps23, List.length_cons, List.length_nil, Nat.reduceAdd, Nat.reduceSub, List.replicate_succ, List.replicate_zero, List.cons_append, List.nil_append]
  repeat' first | refine aw_seq ?_ | refine aw_region ?_ | refine aw_lex [] ?_ | (refine isA ?_; refine do_F rfl ?_) | (refine isL ?_; refine lex_F rfl (by kernel_rfl) rfl rfl ?_) | (refine isLg rfl ?_; refine lex_S rfl (by kernel_rfl) rfl rfl ?_) | refine aops_nil ?_ | refine lex_done _ rfl (by kernel_rfl) ?_ | refine aw_ct rfl ?_ | refine aw_cf rfl ?_ | refine aw_block ?_ | with_reducible refine then_n ?_ | refine aw_skip ?_ | refine aw_exit ?_ | (with_reducible first | refine then_x ?_ | refine then_r ?_ | refine block_x ?_ | refine block_n ?_ | refine block_r ?_) | refine aw_ret ?_
  refine aw_loop (α := { i : Nat // i ≤ rs.length ∧ ∀ j z, j < i → rs[j]? = some z → runB z = true }) (fun i => ⟨[rnL rs, .any, .any, I i.1, .any, .any, .any, .any, .any, .any, .any, .any, .any, .any, .any, .any, .any, .any, .any, .any, .any, .any, .any, .any, .any, .any, .any, .any, .any, .any, .any, .any, .any, .any, .any], [], 0⟩) (fun i => rs.length - i.1) ⟨0, Nat.zero_le _, fun j z h => absurd h (Nat.not_lt_zero j)⟩ ?_ ?_
  · exact sub0 [] rfl rfl (by decide) .nil (by repeat' first | exact les_nil | refine les_cons ?_ ?_ | exact le_any | exact le_refl rfl | exact le_sl rfl rfl | exact le_ptr rfl)
  · rintro ⟨i, hi, hb⟩
    repeat' first | refine aw_seq ?_ | refine aw_region ?_ | refine aw_lex [] ?_ | (refine isA ?_; refine do_F rfl ?_) | (refine isL ?_; refine lex_F rfl (by kernel_rfl) rfl rfl ?_) | (refine isLg rfl ?_; refine lex_S rfl (by kernel_rfl) rfl rfl ?_) | refine aops_nil ?_ | refine lex_done _ rfl (by kernel_rfl) ?_ | refine aw_ct rfl ?_ | refine aw_cf rfl ?_ | refine aw_block ?_ | with_reducible refine then_n ?_ | refine aw_skip ?_ | refine aw_exit ?_ | (with_reducible first | refine then_x ?_ | refine then_r ?_ | refine block_x ?_ | refine block_n ?_ | refine block_r ?_) | refine aw_ret ?_
    refine aw_cond rfl (fun h => ?_) (fun h => ?_)
    · have hlt : i < rs.length := by simpa using h
      obtain ⟨z, hz⟩ : ∃ z, rs[i]? = some z := ⟨_, List.getElem?_eq_getElem hlt⟩
      have zl := hok.at hz
      have hno := avS_no hz
      have hyes := step_all hb hz
      rw [runB_e] at hno hyes
      have c1 := c_siso z zl
      have c2 := c_savR z zl
      generalize isoV z = p at hno hyes c1
      generalize avR z = q at hno hyes c2
      repeat' first | refine aw_seq ?_ | refine aw_region ?_ | refine aw_lex [] ?_ | (refine isA ?_; refine do_F rfl ?_) | (refine isL ?_; refine lex_F rfl (by kernel_rfl) rfl rfl ?_) | (refine isLg rfl ?_; refine lex_S rfl (by kernel_rfl) rfl rfl ?_) | (refine isAi ?_; refine do_R rfl (ia_l (t := rnT) (z := z) rfl rfl rfl rfl (Int.natCast_nonneg i) hz) rfl ?_) | (refine isLi rfl ?_; refine lex_R rfl (by kernel_rfl) rfl (ia_l (t := rnT) (z := z) rfl rfl rfl rfl (Int.natCast_nonneg i) hz) rfl ?_) | (refine isAc 52 ?_; refine do_R rfl (st_call rfl c1 (.cons (.same rfl) .nil) rfl) rfl ?_) | (refine isLc 52 rfl ?_; refine lex_R rfl (by kernel_rfl) rfl (st_call rfl c1 (.cons (.same rfl) .nil) rfl) rfl ?_) | (refine isAc 93 ?_; refine do_R rfl (st_call rfl c2 (.cons (.same rfl) .nil) rfl) rfl ?_) | (refine isLc 93 rfl ?_; refine lex_R rfl (by kernel_rfl) rfl (st_call rfl c2 (.cons (.same rfl) .nil) rfl) rfl ?_) | refine aops_nil ?_ | refine lex_done _ rfl (by kernel_rfl) ?_ | refine aw_ct rfl ?_ | refine aw_cf rfl ?_ | refine aw_block ?_ | with_reducible refine then_n ?_ | refine aw_skip ?_ | refine aw_exit ?_ | (with_reducible first | refine then_x ?_ | refine then_r ?_ | refine block_x ?_ | refine block_n ?_ | refine block_r ?_) | refine aw_ret ?_ | refine aw_cond rfl (fun hbr => ?_) (fun hbr => ?_) | (refine isAg ?_; refine do_br rfl rfl (fun hbr => ?_) (fun hbr => ?_) <;> (fail_if_success (with_reducible (have hx : true = true := hbr))) <;> (fail_if_success (with_reducible (have hx : false = false := hbr)))) | (refine isLg rfl ?_; refine lex_br rfl rfl rfl rfl (fun hbr => ?_) (fun hbr => ?_) <;> (fail_if_success (with_reducible (have hx : true = true := hbr))) <;> (fail_if_success (with_reducible (have hx : false = false := hbr))))
      all_goals first
        | exact fin1 rfl rfl (congrArg B (hno (by simp_all)).symm)
        | (refine ⟨⟨i + 1, hlt, hyes (by simp_all)⟩, by simp only; omega, ?_⟩; exact sub0 [] rfl rfl (by decide) .nil (by repeat' first | exact les_nil | refine les_cons ?_ ?_ | exact le_any | exact le_refl rfl | exact le_sl rfl rfl | exact le_ptr rfl | exact le_i (by assumption) (by omega)))
    · have hge : i = rs.length := by
        have : ¬ ((i : Int) < rs.length) := by simpa using h
        omega
      subst hge
      repeat' first | refine aw_seq ?_ | refine aw_region ?_ | refine aw_lex [] ?_ | (refine isA ?_; refine do_F rfl ?_) | (refine isL ?_; refine lex_F rfl (by kernel_rfl) rfl rfl ?_) | (refine isLg rfl ?_; refine lex_S rfl (by kernel_rfl) rfl rfl ?_) | exact fin1 rfl rfl (by rw [avS_yes hb]) | refine aops_nil ?_ | refine lex_done _ rfl (by kernel_rfl) ?_ | refine aw_ct rfl ?_ | refine aw_cf rfl ?_ | refine aw_block ?_ | with_reducible refine then_n ?_ | refine aw_skip ?_ | refine aw_exit ?_ | (with_reducible first | refine then_x ?_ | refine then_r ?_ | refine block_x ?_ | refine block_n ?_ | refine block_r ?_) | refine aw_ret ?_
end Go.Proofs.Ytkcicbigpbdjpaa.Ab

/- RnDa -/
namespace Go.Proofs.Ytkcicbigpbdjpaa.Ab
open Go.RowKit

theorem flat_len (rs : List Rn) : rs.flatten.length = tot rs := by rw [List.length_flatten]; rfl
theorem flat_snoc {rs : List Rn} {i : Nat} {z : Rn} (hz : rs[i]? = some z) : (rs.take (i + 1)).flatten = (rs.take i).flatten ++ z := by
  rw [take_snoc hz]; simp

theorem c_sflat (rs : List Rn) (hok : okRn rs) (ht : tot rs ≤ 100000000) : Meets Go.Proofs.Try.prog 30 [rnL rs] [] (.sl 0 0 rs.flatten.length) [rwR rs.flatten] false := by
  have hl := hok.1
  refine meets_of [2] Go.Proofs.Try.func30 rfl rfl ?_
  simp only [Go.Proofs.Try.ntmps30, List.length_cons, List.length_nil, Nat.reduceAdd, Nat.reduceSub, List.replicate_succ, List.replicate_zero, List.cons_append, List.nil_append]
  repeat' first | refine aw_seq ?_ | refine aw_region ?_ | refine aw_lex [] ?_ | (refine isA ?_; refine do_F rfl ?_) | (refine isL ?_; refine lex_F rfl (by kernel_rfl) rfl rfl ?_) | (refine isLg rfl ?_; refine lex_S rfl (by kernel_rfl) rfl rfl ?_) | refine aops_nil ?_ | refine lex_done _ rfl (by kernel_rfl) ?_ | refine aw_ct rfl ?_ | refine aw_cf rfl ?_ | refine aw_block ?_ | with_reducible refine then_n ?_ | refine aw_skip ?_ | refine aw_exit ?_ | (with_reducible first | refine then_x ?_ | refine then_r ?_ | refine block_x ?_ | refine block_n ?_ | refine block_r ?_) | refine aw_ret ?_
  refine aw_loop (α := { i : Nat // i ≤ rs.length }) (fun i => ⟨[rnL rs, .any, .any, .sl 0 0 (rs.take i.1).flatten.length, I i.1, .any, .any, .any, .any, .any, .any, .any, .any, .any, .any, .any, .any, .any, .any, .any], [rwR (rs.take i.1).flatten], 0⟩) (fun i => rs.length - i.1) ⟨0, Nat.zero_le _⟩ ?_ ?_
  · exact sub_id rfl (by repeat' first | exact EqS.nil | refine EqS.any ?_ | refine EqS.same rfl ?_)
  · rintro ⟨i, hi⟩
    repeat' first | refine aw_seq ?_ | refine aw_region ?_ | refine aw_lex [] ?_ | (refine isA ?_; refine do_F rfl ?_) | (refine isL ?_; refine lex_F rfl (by kernel_rfl) rfl rfl ?_) | (refine isLg rfl ?_; refine lex_S rfl (by kernel_rfl) rfl rfl ?_) | refine aops_nil ?_ | refine lex_done _ rfl (by kernel_rfl) ?_ | refine aw_ct rfl ?_ | refine aw_cf rfl ?_ | refine aw_block ?_ | with_reducible refine then_n ?_ | refine aw_skip ?_ | refine aw_exit ?_ | (with_reducible first | refine then_x ?_ | refine then_r ?_ | refine block_x ?_ | refine block_n ?_ | refine block_r ?_) | refine aw_ret ?_
    refine aw_cond rfl (fun h => ?_) (fun h => ?_)
    · have hlt : i < rs.length := by simpa using h
      obtain ⟨z, hz⟩ : ∃ z, rs[i]? = some z := ⟨_, List.getElem?_eq_getElem hlt⟩
      have h1 := tot_le rs (i + 1)
      rw [tot_snoc hz] at h1
      have h2 := flat_len (rs.take i)
      repeat' first | refine aw_seq ?_ | refine aw_region ?_ | refine aw_lex [] ?_ | (refine isA ?_; refine do_F rfl ?_) | (refine isL ?_; refine lex_F rfl (by kernel_rfl) rfl rfl ?_) | (refine isLg rfl ?_; refine lex_S rfl (by kernel_rfl) rfl rfl ?_) | (refine isAi ?_; refine do_R rfl (ia_l (t := rnT) (z := z) rfl rfl rfl rfl (Int.natCast_nonneg i) hz) rfl ?_) | (refine isLi rfl ?_; refine lex_R rfl (by kernel_rfl) rfl (ia_l (t := rnT) (z := z) rfl rfl rfl rfl (Int.natCast_nonneg i) hz) rfl ?_) | (refine isAp ?_; refine do_R rfl (ap_l (t := rwT) (xs := (rs.take i).flatten) (ys := z) rfl rfl rfl rfl (.lst _ _) (by omega) rfl) rfl ?_) | (refine isLp rfl ?_; refine lex_R rfl (by kernel_rfl) rfl (ap_l (t := rwT) (xs := (rs.take i).flatten) (ys := z) rfl rfl rfl rfl (.lst _ _) (by omega) rfl) rfl ?_) | refine aops_nil ?_ | refine lex_done _ rfl (by kernel_rfl) ?_ | refine aw_ct rfl ?_ | refine aw_cf rfl ?_ | refine aw_block ?_ | with_reducible refine then_n ?_ | refine aw_skip ?_ | refine aw_exit ?_ | (with_reducible first | refine then_x ?_ | refine then_r ?_ | refine block_x ?_ | refine block_n ?_ | refine block_r ?_) | refine aw_ret ?_
      refine ⟨⟨i + 1, hlt⟩, by simp only; omega, ?_⟩
      exact sub0 [1] rfl rfl (by decide) (.cons rfl rfl rfl rfl (les_eq (by rw [flat_snoc hz]) (flat_noH _ _)) .nil) (by
        repeat' first | exact les_nil | refine les_cons ?_ ?_ | exact le_any | exact le_refl rfl | exact le_sl rfl rfl | exact le_sl rfl (by rw [flat_snoc hz, List.length_append]) | exact le_i (by assumption) (by omega))
    · have hge : i = rs.length := by
        have : ¬ ((i : Int) < rs.length) := by simpa using h
        omega
      subst hge
      repeat' first | refine aw_seq ?_ | refine aw_region ?_ | refine aw_lex [] ?_ | (refine isA ?_; refine do_F rfl ?_) | (refine isL ?_; refine lex_F rfl (by kernel_rfl) rfl rfl ?_) | (refine isLg rfl ?_; refine lex_S rfl (by kernel_rfl) rfl rfl ?_) | exact finL (ty := rwT) rfl rfl rfl rfl (by simp) (by simp) (flat_rw _) | refine aops_nil ?_ | refine lex_done _ rfl (by kernel_rfl) ?_ | refine aw_ct rfl ?_ | refine aw_cf rfl ?_ | refine aw_block ?_ | with_reducible refine then_n ?_ | refine aw_skip ?_ | refine aw_exit ?_ | (with_reducible first | refine then_x ?_ | refine then_r ?_ | refine block_x ?_ | refine block_n ?_ | refine block_r ?_) | refine aw_ret ?_

theorem c_iflat (rs : List Rn) (hok : okRn rs) (ht : tot rs ≤ 100000000) : Meets Go.Proofs.Try.prog 29 [rnL rs] [] (.sl 0 0 rs.flatten.length) [rwR rs.flatten] false := by
  have hl := hok.1
  refine meets_of [2] Go.Proofs.Try.func29 rfl rfl ?_
  simp only [Go.Proofs.Try.ntmps29, List.length_cons, List.length_nil, Nat.reduceAdd, Nat.reduceSub, List.replicate_succ, List.replicate_zero, List.cons_append, List.nil_append]
  repeat' first | refine aw_seq ?_ | refine aw_region ?_ | refine aw_lex [] ?_ | (refine isA ?_; refine do_F rfl ?_) | (refine isL ?_; refine lex_F rfl (by kernel_rfl) rfl rfl ?_) | (refine isLg rfl ?_; refine lex_S rfl (by kernel_rfl) rfl rfl ?_) | refine aops_nil ?_ | refine lex_done _ rfl (by kernel_rfl) ?_ | refine aw_ct rfl ?_ | refine aw_cf rfl ?_ | refine aw_block ?_ | with_reducible refine then_n ?_ | refine aw_skip ?_ | refine aw_exit ?_ | (with_reducible first | refine then_x ?_ | refine then_r ?_ | refine block_x ?_ | refine block_n ?_ | refine block_r ?_) | refine aw_ret ?_
  refine aw_loop (α := { i : Nat // i ≤ rs.length }) (fun i => ⟨[rnL rs, .any, .any, .sl 0 0 (rs.take i.1).flatten.length, .any, .any, .any, rnL rs, I rs.length, I i.1, .any, .any, .any, .any, .any, .any, .any, .any, .any], [rwR (rs.take i.1).flatten], 0⟩) (fun i => rs.length - i.1) ⟨0, Nat.zero_le _⟩ ?_ ?_
  · exact sub_id rfl (by repeat' first | exact EqS.nil | refine EqS.any ?_ | refine EqS.same rfl ?_)
  · rintro ⟨i, hi⟩
    repeat' first | refine aw_seq ?_ | refine aw_region ?_ | refine aw_lex [] ?_ | (refine isA ?_; refine do_F rfl ?_) | (refine isL ?_; refine lex_F rfl (by kernel_rfl) rfl rfl ?_) | (refine isLg rfl ?_; refine lex_S rfl (by kernel_rfl) rfl rfl ?_) | refine aops_nil ?_ | refine lex_done _ rfl (by kernel_rfl) ?_ | refine aw_ct rfl ?_ | refine aw_cf rfl ?_ | refine aw_block ?_ | with_reducible refine then_n ?_ | refine aw_skip ?_ | refine aw_exit ?_ | (with_reducible first | refine then_x ?_ | refine then_r ?_ | refine block_x ?_ | refine block_n ?_ | refine block_r ?_) | refine aw_ret ?_
    refine aw_cond rfl (fun h => ?_) (fun h => ?_)
    · have hlt : i < rs.length := by simpa using h
      obtain ⟨z, hz⟩ : ∃ z, rs[i]? = some z := ⟨_, List.getElem?_eq_getElem hlt⟩
      have h1 := tot_le rs (i + 1)
      rw [tot_snoc hz] at h1
      have h2 := flat_len (rs.take i)
      repeat' first | refine aw_seq ?_ | refine aw_region ?_ | refine aw_lex [] ?_ | (refine isA ?_; refine do_F rfl ?_) | (refine isL ?_; refine lex_F rfl (by kernel_rfl) rfl rfl ?_) | (refine isLg rfl ?_; refine lex_S rfl (by kernel_rfl) rfl rfl ?_) | (refine isAi ?_; refine do_R rfl (ia_l (t := rnT) (z := z) rfl rfl rfl rfl (Int.natCast_nonneg i) hz) rfl ?_) | (refine isLi rfl ?_; refine lex_R rfl (by kernel_rfl) rfl (ia_l (t := rnT) (z := z) rfl rfl rfl rfl (Int.natCast_nonneg i) hz) rfl ?_) | (refine isAp ?_; refine do_R rfl (ap_l (t := rwT) (xs := (rs.take i).flatten) (ys := z) rfl rfl rfl rfl (.lst _ _) (by omega) rfl) rfl ?_) | (refine isLp rfl ?_; refine lex_R rfl (by kernel_rfl) rfl (ap_l (t := rwT) (xs := (rs.take i).flatten) (ys := z) rfl rfl rfl rfl (.lst _ _) (by omega) rfl) rfl ?_) | refine aops_nil ?_ | refine lex_done _ rfl (by kernel_rfl) ?_ | refine aw_ct rfl ?_ | refine aw_cf rfl ?_ | refine aw_block ?_ | with_reducible refine then_n ?_ | refine aw_skip ?_ | refine aw_exit ?_ | (with_reducible first | refine then_x ?_ | refine then_r ?_ | refine block_x ?_ | refine block_n ?_ | refine block_r ?_) | refine aw_ret ?_
      refine ⟨⟨i + 1, hlt⟩, by simp only; omega, ?_⟩
      exact sub0 [2] rfl rfl (by decide) (.cons rfl rfl rfl rfl (les_eq (by rw [flat_snoc hz]) (flat_noH _ _)) .nil) (by
        repeat' first | exact les_nil | refine les_cons ?_ ?_ | exact le_any | exact le_refl rfl | exact le_sl rfl rfl | exact le_sl rfl (by rw [flat_snoc hz, List.length_append]) | exact le_i (by assumption) (by omega))
    · have hge : i = rs.length := by
        have : ¬ ((i : Int) < rs.length) := by simpa using h
        omega
      subst hge
      repeat' first | refine aw_seq ?_ | refine aw_region ?_ | refine aw_lex [] ?_ | (refine isA ?_; refine do_F rfl ?_) | (refine isL ?_; refine lex_F rfl (by kernel_rfl) rfl rfl ?_) | (refine isLg rfl ?_; refine lex_S rfl (by kernel_rfl) rfl rfl ?_) | exact finL (ty := rwT) rfl rfl rfl rfl (by simp) (by simp) (flat_rw _) | refine aops_nil ?_ | refine lex_done _ rfl (by kernel_rfl) ?_ | refine aw_ct rfl ?_ | refine aw_cf rfl ?_ | refine aw_block ?_ | with_reducible refine then_n ?_ | refine aw_skip ?_ | refine aw_exit ?_ | (with_reducible first | refine then_x ?_ | refine then_r ?_ | refine block_x ?_ | refine block_n ?_ | refine block_r ?_) | refine aw_ret ?_

theorem okRn_all {rs : List Rn} (h1 : rs.length ≤ 9223372036854775807) (h2 : ∀ x ∈ rs, x.length ≤ 9223372036854775807) (h : decide (szR rs 1048576 < 0) = false) : okRn rs ∧ tot rs ≤ 1048576 := by
  obtain ⟨q1, _⟩ := szR_ok h1 h2 (by omega) (by omega) h
  exact ⟨okRn_of (by omega) q1, by omega⟩
end Go.Proofs.Ytkcicbigpbdjpaa.Ab

/- MuA -/
namespace Go.Proofs.Ytkcicbigpbdjpaa.Ab
open Go.RowKit

theorem set_last {L : List Reg} {b b' : Reg} {n : Nat} (h : L.length = n) : (L ++ [b]).set n b' = L ++ [b'] := by
  subst h; rw [List.set_append_right _ _ (Nat.le_refl _), Nat.sub_self]; rfl
theorem c_clones (rs : List Rn) (hok : okRn rs) : Meets Go.Proofs.Try.prog 113 [rnL rs] [] (.sl 0 0 rs.length) (rnN rs) false := by
  have hl := hok.1
  refine meets_of [2] Go.Proofs.Try.func113 rfl rfl ?_
  simp only [Go.Proofs.Try.ntmps113, List.length_cons, List.length_nil, Nat.reduceAdd, Nat.reduceSub, List.replicate_succ, List.replicate_zero, List.cons_append, List.nil_append]
  repeat' first | refine aw_seq ?_ | refine aw_region ?_ | refine aw_lex [] ?_ | (refine isA ?_; refine do_F rfl ?_) | (refine isL ?_; refine lex_F rfl (by kernel_rfl) rfl rfl ?_) | (refine isLg rfl ?_; refine lex_S rfl (by kernel_rfl) rfl rfl ?_) | refine aops_nil ?_ | refine lex_done _ rfl (by kernel_rfl) ?_ | refine aw_ct rfl ?_ | refine aw_cf rfl ?_ | refine aw_block ?_ | with_reducible refine then_n ?_ | refine aw_skip ?_ | refine aw_exit ?_ | (with_reducible first | refine then_x ?_ | refine then_r ?_ | refine block_x ?_ | refine block_n ?_ | refine block_r ?_) | refine aw_ret ?_
  refine aw_loop (α := { i : Nat // i ≤ rs.length }) (fun i => ⟨[.any, .any, .any, .sl 0 0 (rs.take i.1).length, .any, .any, rnL rs, I rs.length, I i.1, .any, .any, .any, .any, .any, .any, .any, .any, .any, .any, .any, .any], rnN (rs.take i.1), 0⟩) (fun i => rs.length - i.1) ⟨0, Nat.zero_le _⟩ ?_ ?_
  · refine Sub.trans (T := ⟨[.any, .any, .any, nilV, .any, .any, rnL rs, I rs.length, I 0, .any, .any, .any, .any, .any, .any, .any, .any, .any, .any, .any, .any], [], 0⟩) (sub_nil 39 1 ?_ (.rest _)) (sub0 [] rfl rfl (by decide) .nil (by repeat' first | exact les_nil | refine les_cons ?_ ?_ | exact le_any | exact le_refl rfl | exact le_sl rfl rfl | exact le_ptr rfl))
    exact .cons (.same _) (.cons (.same _) (.cons (.same _) (.cons .nil (.rest _))))
  · rintro ⟨i, hi⟩
    have hnl : (rnN (rs.take i)).length = (rs.take i).length + 1 := by simp [nR_length]
    repeat' first | refine aw_seq ?_ | refine aw_region ?_ | refine aw_lex [] ?_ | (refine isA ?_; refine do_F rfl ?_) | (refine isL ?_; refine lex_F rfl (by kernel_rfl) rfl rfl ?_) | (refine isLg rfl ?_; refine lex_S rfl (by kernel_rfl) rfl rfl ?_) | refine aops_nil ?_ | refine lex_done _ rfl (by kernel_rfl) ?_ | refine aw_ct rfl ?_ | refine aw_cf rfl ?_ | refine aw_block ?_ | with_reducible refine then_n ?_ | refine aw_skip ?_ | refine aw_exit ?_ | (with_reducible first | refine then_x ?_ | refine then_r ?_ | refine block_x ?_ | refine block_n ?_ | refine block_r ?_) | refine aw_ret ?_
    refine aw_cond rfl (fun h => ?_) (fun h => ?_)
    · have hlt : i < rs.length := by simpa using h
      obtain ⟨x, hx⟩ : ∃ z, rs[i]? = some z := ⟨_, List.getElem?_eq_getElem hlt⟩
      have ets : rs.take (i + 1) = rs.take i ++ [x] := take_snoc hx
      have etl : (rs.take i).length = i := by simp; omega
      repeat' first | refine aw_seq ?_ | refine aw_region ?_ | refine aw_lex [] ?_ | (refine isA ?_; refine do_F rfl ?_) | (refine isL ?_; refine lex_F rfl (by kernel_rfl) rfl rfl ?_) | (refine isLg rfl ?_; refine lex_S rfl (by kernel_rfl) rfl rfl ?_) | (refine isAi ?_; refine do_R rfl (ia_l (t := rnT) (z := x) rfl rfl rfl rfl (Int.natCast_nonneg i) hx) rfl ?_) | (refine isLi rfl ?_; refine lex_R rfl (by kernel_rfl) rfl (ia_l (t := rnT) (z := x) rfl rfl rfl rfl (Int.natCast_nonneg i) hx) rfl ?_) | (refine isAs (x := .tmp 5) ?_; refine do_R rfl (step_stores (vs := [rwL x]) rfl rfl rfl rfl (fun c hc => by simp at hc; subst hc; rfl) (get_last rfl) rfl (Nat.le_refl _)) rfl ?_) | (refine isLs (x := .tmp 5) rfl ?_; refine lex_R rfl (by kernel_rfl) rfl (step_stores (vs := [rwL x]) rfl rfl rfl rfl (fun c hc => by simp at hc; subst hc; rfl) (get_last rfl) rfl (Nat.le_refl _)) rfl ?_) | refine aops_nil ?_ | refine lex_done _ rfl (by kernel_rfl) ?_ | refine aw_ct rfl ?_ | refine aw_cf rfl ?_ | refine aw_block ?_ | with_reducible refine then_n ?_ | refine aw_skip ?_ | refine aw_exit ?_ | (with_reducible first | refine then_x ?_ | refine then_r ?_ | refine block_x ?_ | refine block_n ?_ | refine block_r ?_) | refine aw_ret ?_
      refine aops_sub (T := ⟨[.any, .any, .any, .sl 0 0 i, .any, .ptr (i + 1) 0, rnL rs, I rs.length, I i, .any, .any, .any, .sl 0 0 i, .ptr (i + 1) 0, .any, .any, .any, .any, .any, .any, .any], rnN (rs.take i) ++ [⟨39, 1, [rwL x], 0⟩], 0⟩) (sub_id (by rw [set_last rfl]; rfl) (by
        repeat' first | exact EqS.nil | refine EqS.any ?_ | refine EqS.same rfl ?_ | refine EqS.same (congrArg (V.sl 0 0) etl) ?_ | refine EqS.same (congrArg (fun n => V.ptr n 0) (hnl.trans (by rw [etl]))) ?_)) ?_
      repeat' first | refine aw_seq ?_ | refine aw_region ?_ | refine aw_lex [] ?_ | (refine isA ?_; refine do_F rfl ?_) | (refine isL ?_; refine lex_F rfl (by kernel_rfl) rfl rfl ?_) | (refine isLg rfl ?_; refine lex_S rfl (by kernel_rfl) rfl rfl ?_) | (refine isAl (x := .tmp 13) ?_; refine do_R rfl (rd_sc rfl rfl (get_last (by rw [hnl, etl])) rfl rfl) rfl ?_) | (refine isLl (x := .tmp 13) rfl ?_; refine lex_R rfl (by kernel_rfl) rfl (rd_sc rfl rfl (get_last (by rw [hnl, etl])) rfl rfl) rfl ?_) | (refine isAc 130 ?_; refine do_R rfl (st_callK (r' := .sl (i + 2) 0 x.length) (H' := rnN (rs.take i) ++ [⟨39, 1, [rwL x], 0⟩] ++ [rwR x]) rfl (c_clone x (hok.at hx)) (.cons (.same rfl) .nil) (fun q hq => by simp at hq; subst hq; exact flat_noH _ _) (by simp only [List.length_append, hnl, etl, shV, Nat.zero_add, List.length_singleton]) rfl) rfl ?_) | (refine isLc 130 rfl ?_; refine lex_R rfl (by kernel_rfl) rfl (st_callK (r' := .sl (i + 2) 0 x.length) (H' := rnN (rs.take i) ++ [⟨39, 1, [rwL x], 0⟩] ++ [rwR x]) rfl (c_clone x (hok.at hx)) (.cons (.same rfl) .nil) (fun q hq => by simp at hq; subst hq; exact flat_noH _ _) (by simp only [List.length_append, hnl, etl, shV, Nat.zero_add, List.length_singleton]) rfl) rfl ?_) | (refine isAp ?_; refine do_R rfl (ap_nest (outs := rs.take i) (hz := (rnN (rs.take i) ++ [(⟨39, 1, [rwL x], 0⟩ : Reg)] ++ [rwR x]).length) (zi := i + 2) (n := x.length) rfl (congrArg (V.sl 0 0) etl.symm) rfl rfl (get_last rfl) (by omega) rfl) rfl ?_) | (refine isLp rfl ?_; refine lex_R rfl (by kernel_rfl) rfl (ap_nest (outs := rs.take i) (hz := (rnN (rs.take i) ++ [(⟨39, 1, [rwL x], 0⟩ : Reg)] ++ [rwR x]).length) (zi := i + 2) (n := x.length) rfl (congrArg (V.sl 0 0) etl.symm) rfl rfl (get_last rfl) (by omega) rfl) rfl ?_) | refine aops_nil ?_ | refine lex_done _ rfl (by kernel_rfl) ?_ | refine aw_ct rfl ?_ | refine aw_cf rfl ?_ | refine aw_block ?_ | with_reducible refine then_n ?_ | refine aw_skip ?_ | refine aw_exit ?_ | (with_reducible first | refine then_x ?_ | refine then_r ?_ | refine block_x ?_ | refine block_n ?_ | refine block_r ?_) | refine aw_ret ?_
      refine ⟨⟨i + 1, hlt⟩, by simp only; omega, ?_⟩
      have q := hle_pass (D := ⟨39, 1, nC 1 (rs.take i), 2⟩) (S := ⟨39, 1, [.sl (i + 2) 0 x.length], 0⟩) (out := rs.take i) (z := x) (A := [⟨39, 1, [rwL x], 0⟩, rwR x]) (k := 1) rfl
      have ei : 1 + (rs.take i).length + 1 = i + 2 := by omega
      have ej : (rs.take i).length + 2 + 2 = i + 4 := by omega
      rw [ei, ← ets] at q
      simp only [List.length_cons, List.length_nil, Nat.zero_add, Nat.reduceAdd, ej, etl] at q
      refine sub_of ((i + 4) :: (List.range' 1 i ++ [i + 2])) rfl (fun i hi => absurd hi (Nat.not_lt_zero _)) ?_ (by
        repeat' first | exact les_nil | refine les_cons ?_ ?_ | exact le_any | exact le_refl rfl | exact le_sl (congrArg some (by simp only [List.length_append, List.length_set, hnl, etl, List.length_singleton])) (by rw [ets, List.length_append, etl]; rfl) | exact le_i (by assumption) (by omega))
      show HLe _ (rnN (rs.take (i + 1))) (⟨39, 1, nC 1 (rs.take i), 2⟩ :: (nR rwT 71 (rs.take i) ++ [⟨39, 1, [rwL x], 0⟩] ++ [rwR x] ++ [⟨39, 1, [.sl (i + 2) 0 x.length], 0⟩]) ++ [⟨39, 1, nC 1 (rs.take i) ++ [.sl (i + 2) 0 x.length], 0⟩])
      simp only [List.append_assoc, List.cons_append, List.nil_append] at q ⊢
      exact q
    · have hge : i = rs.length := by
        have : ¬ ((i : Int) < rs.length) := by simpa using h
        omega
      subst hge
      repeat' first | refine aw_seq ?_ | refine aw_region ?_ | refine aw_lex [] ?_ | (refine isA ?_; refine do_F rfl ?_) | (refine isL ?_; refine lex_F rfl (by kernel_rfl) rfl rfl ?_) | (refine isLg rfl ?_; refine lex_S rfl (by kernel_rfl) rfl rfl ?_) | exact finN _ rfl (by rw [List.take_length]; exact hle_rn0 _) (le_sl rfl (by rw [List.take_length])) (Or.inr ⟨rfl, by exact rnN_flatS _⟩) | refine aops_nil ?_ | refine lex_done _ rfl (by kernel_rfl) ?_ | refine aw_ct rfl ?_ | refine aw_cf rfl ?_ | refine aw_block ?_ | with_reducible refine then_n ?_ | refine aw_skip ?_ | refine aw_exit ?_ | (with_reducible first | refine then_x ?_ | refine then_r ?_ | refine block_x ?_ | refine block_n ?_ | refine block_r ?_) | refine aw_ret ?_

/-! ### MergeRuns -/
inductive MrR : List Rn → List Rn → Nat → Prop where
  | stop {rs : List Rn} (h : rs.length ≤ 1) : MrR rs rs 0
  | step {rs out : List Rn} {n : Nat} (h : 1 < rs.length) (t : MrR (mpV rs) out n) : MrR rs out (n + 1)
theorem mp_half : ∀ rs : List Rn, (mpV rs).length = (rs.length + 1) / 2
  | [] => rfl
  | [x] => by simp [mpV]
  | x :: y :: r => by have := mp_half r; simp only [mpV, List.length_cons]; omega
theorem mr_ex : ∀ (N : Nat) {rs : List Rn}, rs.length ≤ N → ∃ out n, MrR rs out n ∧ n ≤ N
  | N, rs, hN => by
    rcases Nat.lt_or_ge 1 rs.length with h | h
    · cases N with
      | zero => omega
      | succ N =>
        obtain ⟨out, n, h1, h2⟩ := mr_ex N (rs := mpV rs) (by rw [mp_half]; omega)
        exact ⟨out, n + 1, .step h h1, by omega⟩
    · exact ⟨rs, 0, .stop h, Nat.zero_le _⟩
theorem mr_len {rs out : List Rn} {n : Nat} (h : MrR rs out n) : out.length ≤ 1 ∧ n ≤ rs.length ∧ tot out = tot rs := by
  induction h with
  | stop h => exact ⟨h, Nat.zero_le _, rfl⟩
  | @step rs out n h t ih =>
    have e := mp_tot rs
    have l := mp_half rs
    exact ⟨ih.1, by omega, by omega⟩
theorem mr_more {rs out : List Rn} {m : Nat} (h : MrR rs out m) (hl : 1 < rs.length) : ∃ k, m = k + 1 ∧ MrR (mpV rs) out k := by
  cases h with
  | stop h => omega
  | step h t => exact ⟨_, rfl, t⟩
theorem mr_end {rs out : List Rn} {m : Nat} (h : MrR rs out m) (hl : rs.length ≤ 1) : m = 0 ∧ rs = out := by
  cases h with
  | stop h => exact ⟨rfl, rfl⟩
  | step h t => omega
structure OkM (rs : List Rn) : Prop where
  len : rs.length ≤ 10000000
  tot : tot rs ≤ 10000000
theorem OkM.rn {rs : List Rn} (h : OkM rs) : okRn rs := ⟨by have := h.len; omega, fun x hx => by
  have : x.length ≤ Ab.tot rs := mem_sum (List.mem_map.2 ⟨x, hx, rfl⟩)
  have := h.tot
  omega⟩
theorem OkM.mp {rs : List Rn} (h : OkM rs) : OkM (mpV rs) := by
  have := mp_ok h.len h.tot
  exact ⟨this.2.2, this.2.1⟩
theorem c_imr0 (rs : List Rn) (hok : OkM rs) (hv : avS rs = false) : Meets Go.Proofs.Try.prog 43 [rnL rs] [] (.tup [nilV, I 0, B false]) [] false := by
  have a1 := c_iavS rs hok.rn
  rw [hv] at a1
  refine meets_of [2, 3, 4] Go.Proofs.Try.func43 rfl rfl ?_
  simp only [Go.Proofs.Try.ntmps43, List.length_cons, List.length_nil, Nat.reduceAdd, Nat.reduceSub, List.replicate_succ, List.replicate_zero, List.cons_append, List.nil_append]
  repeat' first | refine aw_seq ?_ | refine aw_region ?_ | refine aw_lex [] ?_ | (refine isA ?_; refine do_F rfl ?_) | (refine isL ?_; refine lex_F rfl (by kernel_rfl) rfl rfl ?_) | (refine isLg rfl ?_; refine lex_S rfl (by kernel_rfl) rfl rfl ?_) | (refine isAc 22 ?_; refine do_R rfl (st_call rfl a1 (.cons (.same rfl) .nil) rfl) rfl ?_) | (refine isLc 22 rfl ?_; refine lex_R rfl (by kernel_rfl) rfl (st_call rfl a1 (.cons (.same rfl) .nil) rfl) rfl ?_) | exact finNT [] rfl hle_nil (le_refl rfl) (Or.inr ⟨rfl, fun q hq => by cases hq⟩) | refine aops_nil ?_ | refine lex_done _ rfl (by kernel_rfl) ?_ | refine aw_ct rfl ?_ | refine aw_cf rfl ?_ | refine aw_block ?_ | with_reducible refine then_n ?_ | refine aw_skip ?_ | refine aw_exit ?_ | (with_reducible first | refine then_x ?_ | refine then_r ?_ | refine block_x ?_ | refine block_n ?_ | refine block_r ?_) | refine aw_ret ?_
theorem c_imr (rs out : List Rn) (n : Nat) (hok : OkM rs) (hv : avS rs = true) (h : MrR rs out n) : Meets Go.Proofs.Try.prog 43 [rnL rs] [] (.tup [.sl 0 0 out.flatten.length, I n, B true]) [rwR out.flatten] false := by
  have a1 := c_iavS rs hok.rn
  rw [hv] at a1
  have hR : ∀ j x, rs[j]? = some x → (rnN rs)[1 + j]? = some (rwR x) := row_in (K0 := [⟨39, 1, nC 1 rs, 0⟩]) (D := []) rfl (by simp)
  have a2 := (c_clones rs hok.rn).frozen (pur_nest rfl hR)
  have hn := (mr_len h).2.1
  have hl := hok.len
  refine meets_of [2, 3, 4] Go.Proofs.Try.func43 rfl rfl ?_
  simp only [Go.Proofs.Try.ntmps43, List.length_cons, List.length_nil, Nat.reduceAdd, Nat.reduceSub, List.replicate_succ, List.replicate_zero, List.cons_append, List.nil_append]
  repeat' first | refine aw_seq ?_ | refine aw_region ?_ | refine aw_lex [] ?_ | (refine isA ?_; refine do_F rfl ?_) | (refine isL ?_; refine lex_F rfl (by kernel_rfl) rfl rfl ?_) | (refine isLg rfl ?_; refine lex_S rfl (by kernel_rfl) rfl rfl ?_) | (refine isAc 22 ?_; refine do_R rfl (st_call rfl a1 (.cons (.same rfl) .nil) rfl) rfl ?_) | (refine isLc 22 rfl ?_; refine lex_R rfl (by kernel_rfl) rfl (st_call rfl a1 (.cons (.same rfl) .nil) rfl) rfl ?_) | (refine isAc 113 ?_; refine do_R rfl (st_call rfl a2 (.cons (.same rfl) .nil) rfl) rfl ?_) | (refine isLc 113 rfl ?_; refine lex_R rfl (by kernel_rfl) rfl (st_call rfl a2 (.cons (.same rfl) .nil) rfl) rfl ?_) | refine aops_nil ?_ | refine lex_done _ rfl (by kernel_rfl) ?_ | refine aw_ct rfl ?_ | refine aw_cf rfl ?_ | refine aw_block ?_ | with_reducible refine then_n ?_ | refine aw_skip ?_ | refine aw_exit ?_ | (with_reducible first | refine then_x ?_ | refine then_r ?_ | refine block_x ?_ | refine block_n ?_ | refine block_r ?_) | refine aw_ret ?_
  refine aw_loop (α := { p : List Rn × Nat // OkM p.1 ∧ p.2 ≤ n ∧ MrR p.1 out (n - p.2) }) (fun p => ⟨[rnL p.1.1, .any, .any, .any, .any, I p.1.2, .any, .any, .any, .any, .any, .any, .any, .any, .any, .any, .any, .any, .any, .any, .any], [], 0⟩) (fun p => n - p.1.2) ⟨(rs, 0), hok, Nat.zero_le _, h⟩ ?_ ?_
  · exact sub0 [] rfl rfl (by decide) .nil (by repeat' first | exact les_nil | refine les_cons ?_ ?_ | exact le_any | exact le_refl rfl | exact le_sl rfl rfl | exact le_ptr rfl)
  · rintro ⟨⟨x, k⟩, k1, k2, k3⟩
    simp only at k1 k2 k3
    repeat' first | refine aw_seq ?_ | refine aw_region ?_ | refine aw_lex [] ?_ | (refine isA ?_; refine do_F rfl ?_) | (refine isL ?_; refine lex_F rfl (by kernel_rfl) rfl rfl ?_) | (refine isLg rfl ?_; refine lex_S rfl (by kernel_rfl) rfl rfl ?_) | refine aops_nil ?_ | refine lex_done _ rfl (by kernel_rfl) ?_ | refine aw_ct rfl ?_ | refine aw_cf rfl ?_ | refine aw_block ?_ | with_reducible refine then_n ?_ | refine aw_skip ?_ | refine aw_exit ?_ | (with_reducible first | refine then_x ?_ | refine then_r ?_ | refine block_x ?_ | refine block_n ?_ | refine block_r ?_) | refine aw_ret ?_
    refine aw_cond rfl (fun p => ?_) (fun p => ?_)
    · have hlt : 1 < x.length := by have := of_decide_eq_true p; simp only at this; omega
      have hRm : ∀ j y, (mpV x)[j]? = some y → (rnN (mpV x))[1 + j]? = some (rwR y) := row_in (K0 := [⟨39, 1, nC 1 (mpV x), 0⟩]) (D := []) rfl (by simp)
      have a3 := (c_imp x k1.len k1.tot).frozen (pur_nest rfl hRm)
      obtain ⟨m, hm, t⟩ := mr_more k3 hlt
      repeat' first | refine aw_seq ?_ | refine aw_region ?_ | refine aw_lex [] ?_ | (refine isA ?_; refine do_F rfl ?_) | (refine isL ?_; refine lex_F rfl (by kernel_rfl) rfl rfl ?_) | (refine isLg rfl ?_; refine lex_S rfl (by kernel_rfl) rfl rfl ?_) | (refine isAc 49 ?_; refine do_R rfl (st_call rfl a3 (.cons (.same rfl) .nil) rfl) rfl ?_) | (refine isLc 49 rfl ?_; refine lex_R rfl (by kernel_rfl) rfl (st_call rfl a3 (.cons (.same rfl) .nil) rfl) rfl ?_) | refine aops_nil ?_ | refine lex_done _ rfl (by kernel_rfl) ?_ | refine aw_ct rfl ?_ | refine aw_cf rfl ?_ | refine aw_block ?_ | with_reducible refine then_n ?_ | refine aw_skip ?_ | refine aw_exit ?_ | (with_reducible first | refine then_x ?_ | refine then_r ?_ | refine block_x ?_ | refine block_n ?_ | refine block_r ?_) | refine aw_ret ?_
      refine ⟨⟨(mpV x, k + 1), k1.mp, by simp only; omega, by simp only; rw [show n - (k + 1) = m by omega]; exact t⟩, by simp only; omega, ?_⟩
      exact sub0 [] rfl rfl (by decide) .nil (by
        repeat' first | exact les_nil | refine les_cons ?_ ?_ | exact le_any | exact le_refl rfl | exact le_i (show k < n by omega) (by omega))
    · have hge : x.length ≤ 1 := by have := of_decide_eq_false p; simp only at this; omega
      obtain ⟨hm, rfl⟩ := mr_end k3 hge
      obtain rfl : k = n := by omega
      have a4 := c_iflat x k1.rn (by have := k1.tot; omega)
      repeat' first | refine aw_seq ?_ | refine aw_region ?_ | refine aw_lex [] ?_ | (refine isA ?_; refine do_F rfl ?_) | (refine isL ?_; refine lex_F rfl (by kernel_rfl) rfl rfl ?_) | (refine isLg rfl ?_; refine lex_S rfl (by kernel_rfl) rfl rfl ?_) | (refine isAc 29 ?_; refine do_R rfl (st_callK rfl a4 (.cons (.same rfl) .nil) (fun q hq => by simp at hq; subst hq; exact flat_noH _ _) rfl rfl) rfl ?_) | (refine isLc 29 rfl ?_; refine lex_R rfl (by kernel_rfl) rfl (st_callK rfl a4 (.cons (.same rfl) .nil) (fun q hq => by simp at hq; subst hq; exact flat_noH _ _) rfl rfl) rfl ?_) | exact finNT [0] rfl (hle_of (by decide) (.cons rfl rfl rfl rfl (les_refl (flat_noH _ _)) .nil)) (le_tup (les_cons (le_sl rfl rfl) (les_cons (le_refl rfl) (les_cons (le_refl rfl) les_nil)))) (Or.inr ⟨rfl, fun q hq => by simp at hq; subst hq; exact ⟨Nat.zero_ne_one, fun _ => (flat_rw _).flatS⟩⟩) | refine aops_nil ?_ | refine lex_done _ rfl (by kernel_rfl) ?_ | refine aw_ct rfl ?_ | refine aw_cf rfl ?_ | refine aw_block ?_ | with_reducible refine then_n ?_ | refine aw_skip ?_ | refine aw_exit ?_ | (with_reducible first | refine then_x ?_ | refine then_r ?_ | refine block_x ?_ | refine block_n ?_ | refine block_r ?_) | refine aw_ret ?_
theorem c_smr0 (rs : List Rn) (hok : OkM rs) (hv : avS rs = false) : Meets Go.Proofs.Try.prog 41 [rnL rs] [] (.tup [rwL [], I 0, B false]) [] true := by
  have a1 := c_savS rs hok.rn
  rw [hv] at a1
  refine meets_of [2, 3, 4] Go.Proofs.Try.func41 rfl rfl ?_
  simp only [Go.Proofs.Try.ntmps41, List.length_cons, List.length_nil, Nat.reduceAdd, Nat.reduceSub, List.replicate_succ, List.replicate_zero, List.cons_append, List.nil_append]
  repeat' first | (refine isA ?_; refine do_R rfl (lit_of rfl rfl rfl rfl rfl) rfl ?_) | refine aw_seq ?_ | refine aw_region ?_ | refine aw_lex [] ?_ | (refine isA ?_; refine do_F rfl ?_) | (refine isL ?_; refine lex_F rfl (by kernel_rfl) rfl rfl ?_) | (refine isLg rfl ?_; refine lex_S rfl (by kernel_rfl) rfl rfl ?_) | (refine isAc 23 ?_; refine do_R rfl (st_call rfl a1 (.cons (.same rfl) .nil) rfl) rfl ?_) | (refine isLc 23 rfl ?_; refine lex_R rfl (by kernel_rfl) rfl (st_call rfl a1 (.cons (.same rfl) .nil) rfl) rfl ?_) | exact finPT rfl (.tup (.cons (.same rfl) (.cons (.same rfl) (.cons (.same rfl) .nil)))) | refine aops_nil ?_ | refine lex_done _ rfl (by kernel_rfl) ?_ | refine aw_ct rfl ?_ | refine aw_cf rfl ?_ | refine aw_block ?_ | with_reducible refine then_n ?_ | refine aw_skip ?_ | refine aw_exit ?_ | (with_reducible first | refine then_x ?_ | refine then_r ?_ | refine block_x ?_ | refine block_n ?_ | refine block_r ?_) | refine aw_ret ?_
theorem c_smr (rs out : List Rn) (n : Nat) (hok : OkM rs) (hv : avS rs = true) (h : MrR rs out n) : Meets Go.Proofs.Try.prog 41 [rnL rs] [] (.tup [rwL out.flatten, I n, B true]) [] true := by
  have a1 := c_savS rs hok.rn
  rw [hv] at a1
  have hn := (mr_len h).2.1
  have ho := (mr_len h).1
  have ht := (mr_len h).2.2
  have hl := hok.len
  have hlt := hok.tot
  refine meets_of [2, 3, 4] Go.Proofs.Try.func41 rfl rfl ?_
  simp only [Go.Proofs.Try.ntmps41, List.length_cons, List.length_nil, Nat.reduceAdd, Nat.reduceSub, List.replicate_succ, List.replicate_zero, List.cons_append, List.nil_append]
  repeat' first | refine aw_seq ?_ | refine aw_region ?_ | refine aw_lex [] ?_ | (refine isA ?_; refine do_F rfl ?_) | (refine isL ?_; refine lex_F rfl (by kernel_rfl) rfl rfl ?_) | (refine isLg rfl ?_; refine lex_S rfl (by kernel_rfl) rfl rfl ?_) | (refine isAc 23 ?_; refine do_R rfl (st_call rfl a1 (.cons (.same rfl) .nil) rfl) rfl ?_) | (refine isLc 23 rfl ?_; refine lex_R rfl (by kernel_rfl) rfl (st_call rfl a1 (.cons (.same rfl) .nil) rfl) rfl ?_) | refine aops_nil ?_ | refine lex_done _ rfl (by kernel_rfl) ?_ | refine aw_ct rfl ?_ | refine aw_cf rfl ?_ | refine aw_block ?_ | with_reducible refine then_n ?_ | refine aw_skip ?_ | refine aw_exit ?_ | (with_reducible first | refine then_x ?_ | refine then_r ?_ | refine block_x ?_ | refine block_n ?_ | refine block_r ?_) | refine aw_ret ?_
  refine aw_loop (α := { p : List Rn × Nat // OkM p.1 ∧ p.2 ≤ n ∧ MrR p.1 out (n - p.2) ∧ (0 < p.1.length ∨ p.2 = 0) }) (fun p => ⟨[.any, .any, .any, .any, .any, rnL p.1.1, I p.1.2, .any, .any, .any, .any, .any, .any, .any, .any, .any, .any, .any, .any, .any, .any, .any, .any, .any, .any, .any, .any, .any, .any, .any], [], 0⟩) (fun p => n - p.1.2) ⟨(rs, 0), hok, Nat.zero_le _, h, Or.inr rfl⟩ ?_ ?_
  · exact sub0 [] rfl rfl (by decide) .nil (by repeat' first | exact les_nil | refine les_cons ?_ ?_ | exact le_any | exact le_refl rfl | exact le_sl rfl rfl | exact le_ptr rfl)
  · rintro ⟨⟨x, k⟩, k1, k2, k3, k4⟩
    simp only at k1 k2 k3 k4
    repeat' first | refine aw_seq ?_ | refine aw_region ?_ | refine aw_lex [] ?_ | (refine isA ?_; refine do_F rfl ?_) | (refine isL ?_; refine lex_F rfl (by kernel_rfl) rfl rfl ?_) | (refine isLg rfl ?_; refine lex_S rfl (by kernel_rfl) rfl rfl ?_) | refine aops_nil ?_ | refine lex_done _ rfl (by kernel_rfl) ?_ | refine aw_ct rfl ?_ | refine aw_cf rfl ?_ | refine aw_block ?_ | with_reducible refine then_n ?_ | refine aw_skip ?_ | refine aw_exit ?_ | (with_reducible first | refine then_x ?_ | refine then_r ?_ | refine block_x ?_ | refine block_n ?_ | refine block_r ?_) | refine aw_ret ?_
    refine aw_cond rfl (fun p => ?_) (fun p => ?_)
    · have hlt : 1 < x.length := by have := of_decide_eq_true p; simp only at this; omega
      have hRm : ∀ j y, (mpV x)[j]? = some y → (rnN (mpV x))[1 + j]? = some (rwR y) := row_in (K0 := [⟨39, 1, nC 1 (mpV x), 0⟩]) (D := []) rfl (by simp)
      have a3 := (c_smp x k1.len k1.tot).frozen (pur_nest rfl hRm)
      obtain ⟨m, hm, t⟩ := mr_more k3 hlt
      repeat' first | refine aw_seq ?_ | refine aw_region ?_ | refine aw_lex [] ?_ | (refine isA ?_; refine do_F rfl ?_) | (refine isL ?_; refine lex_F rfl (by kernel_rfl) rfl rfl ?_) | (refine isLg rfl ?_; refine lex_S rfl (by kernel_rfl) rfl rfl ?_) | (refine isAc 54 ?_; refine do_R rfl (st_call rfl a3 (.cons (.same rfl) .nil) rfl) rfl ?_) | (refine isLc 54 rfl ?_; refine lex_R rfl (by kernel_rfl) rfl (st_call rfl a3 (.cons (.same rfl) .nil) rfl) rfl ?_) | refine aops_nil ?_ | refine lex_done _ rfl (by kernel_rfl) ?_ | refine aw_ct rfl ?_ | refine aw_cf rfl ?_ | refine aw_block ?_ | with_reducible refine then_n ?_ | refine aw_skip ?_ | refine aw_exit ?_ | (with_reducible first | refine then_x ?_ | refine then_r ?_ | refine block_x ?_ | refine block_n ?_ | refine block_r ?_) | refine aw_ret ?_
      refine ⟨⟨(mpV x, k + 1), k1.mp, by simp only; omega, by simp only; rw [show n - (k + 1) = m by omega]; exact t, Or.inl (by simp only; rw [mp_half]; omega)⟩, by simp only; omega, ?_⟩
      exact sub0 [] rfl rfl (by decide) .nil (by
        repeat' first | exact les_nil | refine les_cons ?_ ?_ | exact le_any | exact le_refl rfl | exact le_i (show k < n by omega) (by omega))
    · have hge : x.length ≤ 1 := by have := of_decide_eq_false p; simp only at this; omega
      obtain ⟨hm, rfl⟩ := mr_end k3 hge
      obtain rfl : k = n := by omega
      repeat' first | refine aw_seq ?_ | refine aw_region ?_ | refine aw_lex [] ?_ | (refine isA ?_; refine do_F rfl ?_) | (refine isL ?_; refine lex_F rfl (by kernel_rfl) rfl rfl ?_) | (refine isLg rfl ?_; refine lex_S rfl (by kernel_rfl) rfl rfl ?_) | refine aops_nil ?_ | refine lex_done _ rfl (by kernel_rfl) ?_ | refine aw_ct rfl ?_ | refine aw_cf rfl ?_ | refine aw_block ?_ | with_reducible refine then_n ?_ | refine aw_skip ?_ | refine aw_exit ?_ | (with_reducible first | refine then_x ?_ | refine then_r ?_ | refine block_x ?_ | refine block_n ?_ | refine block_r ?_) | refine aw_ret ?_
      refine aw_cond rfl (fun q => ?_) (fun q => ?_)
      · have h0 : x.length = 0 := by have := of_decide_eq_true q; simp only at this; omega
        obtain rfl : k = 0 := by omega
        obtain rfl : x = [] := List.eq_nil_of_length_eq_zero h0
        repeat' first | (refine isA ?_; refine do_R rfl (lit_of rfl rfl rfl rfl rfl) rfl ?_) | refine aw_seq ?_ | refine aw_region ?_ | refine aw_lex [] ?_ | (refine isA ?_; refine do_F rfl ?_) | (refine isL ?_; refine lex_F rfl (by kernel_rfl) rfl rfl ?_) | (refine isLg rfl ?_; refine lex_S rfl (by kernel_rfl) rfl rfl ?_) | exact finPT rfl (.tup (.cons (.same rfl) (.cons (.same rfl) (.cons (.same rfl) .nil)))) | refine aops_nil ?_ | refine lex_done _ rfl (by kernel_rfl) ?_ | refine aw_ct rfl ?_ | refine aw_cf rfl ?_ | refine aw_block ?_ | with_reducible refine then_n ?_ | refine aw_skip ?_ | refine aw_exit ?_ | (with_reducible first | refine then_x ?_ | refine then_r ?_ | refine block_x ?_ | refine block_n ?_ | refine block_r ?_) | refine aw_ret ?_
      · have h0 : x.length ≠ 0 := by have := of_decide_eq_false q; simp only at this; omega
        obtain ⟨y, rfl⟩ := List.length_eq_one_iff.1 (show x.length = 1 by omega)
        have hy : y.length ≤ 1000000000 := k1.rn.2 y (by simp)
        have e : ([y] : List Rn).flatten = y := by simp
        rw [e]
        repeat' first | refine aw_seq ?_ | refine aw_region ?_ | refine aw_lex [] ?_ | (refine isA ?_; refine do_F rfl ?_) | (refine isL ?_; refine lex_F rfl (by kernel_rfl) rfl rfl ?_) | (refine isLg rfl ?_; refine lex_S rfl (by kernel_rfl) rfl rfl ?_) | (refine isAi ?_; refine do_R rfl (ia_l (t := rnT) (z := y) rfl rfl rfl rfl (Int.natCast_nonneg 0) rfl) rfl ?_) | (refine isLi rfl ?_; refine lex_R rfl (by kernel_rfl) rfl (ia_l (t := rnT) (z := y) rfl rfl rfl rfl (Int.natCast_nonneg 0) rfl) rfl ?_) | (refine isAp ?_; refine do_R rfl (ap_l (t := rwT) (xs := []) (ys := y) rfl rfl rfl rfl (.lst _ _) (by simp; omega) rfl) rfl ?_) | (refine isLp rfl ?_; refine lex_R rfl (by kernel_rfl) rfl (ap_l (t := rwT) (xs := []) (ys := y) rfl rfl rfl rfl (.lst _ _) (by simp; omega) rfl) rfl ?_) | exact finPT rfl (.tup (.cons (pur_row rfl) (.cons (.same rfl) (.cons (.same rfl) .nil)))) | refine aops_nil ?_ | refine lex_done _ rfl (by kernel_rfl) ?_ | refine aw_ct rfl ?_ | refine aw_cf rfl ?_ | refine aw_block ?_ | with_reducible refine then_n ?_ | refine aw_skip ?_ | refine aw_exit ?_ | (with_reducible first | refine then_x ?_ | refine then_r ?_ | refine block_x ?_ | refine block_n ?_ | refine block_r ?_) | refine aw_ret ?_
end Go.Proofs.Ytkcicbigpbdjpaa.Ab

/- SoB0 -/
namespace Go.Proofs.Ytkcicbigpbdjpaa.Ab
open Go.RowKit

def rwI (x : Rw) : List Int := [x.a, x.b, x.c]
def rwD (x y : Rw) : Bool := decide (rwI x = rwI y)
theorem neqRw {o : Oper} {ρ : Operand → V} {H : List Reg} {t' : TypeId} {x y : Operand} {a b : Rw} (ho : o.op = .binOp .neq 71 x y t') (hx : ρ x = .agg (rwE a)) (hy : ρ y = .agg (rwE b)) : Step Go.Proofs.Try.prog o ρ H (B (!rwD a b)) H :=
  step_neqA (us := rwI a) (bs := rwI b) _ (intFs_of Go.Proofs.Try.underlying71 (by kernel_rfl) (by kernel_rfl) (by kernel_rfl)) ho hx hy rfl rfl
theorem rwD_iff {x y : Rw} : rwD x y = true ↔ x = y := by
  cases x; cases y
  simp [rwD, rwI]

def eqLd : List Rw → List Rw → Bool
  | [], [] => true
  | x :: xs, y :: ys => rwD x y && eqLd xs ys
  | _, _ => false
theorem eqLd_iff : ∀ {xs ys : List Rw}, eqLd xs ys = true ↔ xs = ys
  | [], [] => by simp [eqLd]
  | x :: xs, y :: ys => by simp only [eqLd, Bool.and_eq_true, rwD_iff, eqLd_iff, List.cons.injEq]
  | [], y :: ys => by simp [eqLd]
  | x :: xs, [] => by simp [eqLd]
theorem eqLd_len {xs ys : List Rw} (h : xs.length ≠ ys.length) : eqLd xs ys = false := by
  cases he : eqLd xs ys with
  | false => rfl
  | true => exact absurd (congrArg List.length (eqLd_iff.1 he)) h
theorem eqLd_at {xs ys : List Rw} {i : Nat} {x y : Rw} (hx : xs[i]? = some x) (hy : ys[i]? = some y) : eqLd (xs.drop i) (ys.drop i) = (rwD x y && eqLd (xs.drop (i + 1)) (ys.drop (i + 1))) := by
  rw [take_drop1 hx, take_drop1 hy, eqLd]
end Go.Proofs.Ytkcicbigpbdjpaa.Ab

/- SpA1 -/
namespace Go.Proofs.Ytkcicbigpbdjpaa.Ab
open Go.RowKit

/-! ### Bags -/
def eqB (xs ys : List Rw) : Bool := eqLd (srtV xs) (srtV ys)
theorem eqB_iff {xs ys : List Rw} : eqB xs ys = true ↔ xs.Perm ys := by
  unfold eqB
  rw [eqLd_iff]
  constructor
  · intro h
    have h1 := srtV_perm xs
    rw [h] at h1
    exact h1.symm.trans (srtV_perm ys)
  · intro h
    exact srtV_of (srtV_srt _) ((srtV_perm xs).trans h)
end Go.Proofs.Ytkcicbigpbdjpaa.Ab

/- SqB1 -/
namespace Go.Proofs.Ytkcicbigpbdjpaa.Ab
open Go.RowKit

theorem c_seqB2 (xs ys : List Rw) (h1 : xs.length ≤ 100000000) (h2 : ys.length ≤ 100000000) : Meets Go.Proofs.Try.prog 32 [rwL xs, rwL ys] [] (B (eqB xs ys)) [] false := by
  have s1 := (c_ssort xs h1).frozen (pur_row rfl)
  have s2 := (c_ssort ys h2).frozen (pur_row rfl)
  have l1 := srtV_len xs
  have l2 := srtV_len ys
  show Meets Go.Proofs.Try.prog 32 [rwL xs, rwL ys] [] (B (eqLd (srtV xs) (srtV ys))) [] false
  generalize srtV xs = us at s1 l1 ⊢
  generalize srtV ys = vs at s2 l2 ⊢
  refine meets_of [4] Go.Proofs.Try.func32 rfl rfl ?_
  simp only [Go.Proofs.Try.ntmps32, List.length_cons, List.length_nil, Nat.reduceAdd, Nat.reduceSub, List.replicate_succ, List.replicate_zero, List.cons_append, List.nil_append]
  repeat' first | refine aw_seq ?_ | refine aw_region ?_ | refine aw_lex [] ?_ | (refine isA ?_; refine do_F rfl ?_) | (refine isL ?_; refine lex_F rfl (by kernel_rfl) rfl rfl ?_) | (refine isLg rfl ?_; refine lex_S rfl (by kernel_rfl) rfl rfl ?_) | (refine isAc 60 (x := #[.tmp 8]) ?_; refine do_R rfl (st_call rfl s1 (.cons (.same rfl) .nil) rfl) rfl ?_) | (refine isLc 60 (x := #[.tmp 8]) rfl ?_; refine lex_R rfl (by kernel_rfl) rfl (st_call rfl s1 (.cons (.same rfl) .nil) rfl) rfl ?_) | (refine isAc 60 (x := #[.tmp 10]) ?_; refine do_R rfl (st_call rfl s2 (.cons (.same rfl) .nil) rfl) rfl ?_) | (refine isLc 60 (x := #[.tmp 10]) rfl ?_; refine lex_R rfl (by kernel_rfl) rfl (st_call rfl s2 (.cons (.same rfl) .nil) rfl) rfl ?_) | refine aops_nil ?_ | refine lex_done _ rfl (by kernel_rfl) ?_ | refine aw_ct rfl ?_ | refine aw_cf rfl ?_ | refine aw_block ?_ | with_reducible refine then_n ?_ | refine aw_skip ?_ | refine aw_exit ?_ | (with_reducible first | refine then_x ?_ | refine then_r ?_ | refine block_x ?_ | refine block_n ?_ | refine block_r ?_) | refine aw_ret ?_
  refine aw_cond rfl (fun h => ?_) (fun h => ?_)
  · have hne : us.length ≠ vs.length := by have : ¬ ((us.length : Int) = vs.length) := (by simpa using h); omega
    repeat' first | refine aw_seq ?_ | refine aw_region ?_ | refine aw_lex [] ?_ | (refine isA ?_; refine do_F rfl ?_) | (refine isL ?_; refine lex_F rfl (by kernel_rfl) rfl rfl ?_) | (refine isLg rfl ?_; refine lex_S rfl (by kernel_rfl) rfl rfl ?_) | exact fin1 rfl rfl (by rw [eqLd_len hne]) | refine aops_nil ?_ | refine lex_done _ rfl (by kernel_rfl) ?_ | refine aw_ct rfl ?_ | refine aw_cf rfl ?_ | refine aw_block ?_ | with_reducible refine then_n ?_ | refine aw_skip ?_ | refine aw_exit ?_ | (with_reducible first | refine then_x ?_ | refine then_r ?_ | refine block_x ?_ | refine block_n ?_ | refine block_r ?_) | refine aw_ret ?_
  have he : us.length = vs.length := by have : ((us.length : Int) = vs.length) := (by simpa using h); omega
  repeat' first | refine aw_seq ?_ | refine aw_region ?_ | refine aw_lex [] ?_ | (refine isA ?_; refine do_F rfl ?_) | (refine isL ?_; refine lex_F rfl (by kernel_rfl) rfl rfl ?_) | (refine isLg rfl ?_; refine lex_S rfl (by kernel_rfl) rfl rfl ?_) | refine aops_nil ?_ | refine lex_done _ rfl (by kernel_rfl) ?_ | refine aw_ct rfl ?_ | refine aw_cf rfl ?_ | refine aw_block ?_ | with_reducible refine then_n ?_ | refine aw_skip ?_ | refine aw_exit ?_ | (with_reducible first | refine then_x ?_ | refine then_r ?_ | refine block_x ?_ | refine block_n ?_ | refine block_r ?_) | refine aw_ret ?_
  refine aw_loop (α := { i : Nat // i ≤ us.length ∧ eqLd (us.drop i) (vs.drop i) = eqLd us vs }) (fun i => ⟨[.any, .any, .any, .any, .any, rwL us, rwL vs, I i.1, .any, .any, .any, .any, .any, .any, .any, .any, .any, .any, .any, .any, .any, .any, .any, .any, .any, .any, .any, .any, .any, .any, .any, .any], [], 0⟩) (fun i => us.length - i.1) ⟨0, Nat.zero_le _, rfl⟩ ?_ ?_
  · exact sub_id rfl (by repeat' first | exact EqS.nil | refine EqS.any ?_ | refine EqS.same rfl ?_)
  · rintro ⟨i, hi, hq⟩
    repeat' first | refine aw_seq ?_ | refine aw_region ?_ | refine aw_lex [] ?_ | (refine isA ?_; refine do_F rfl ?_) | (refine isL ?_; refine lex_F rfl (by kernel_rfl) rfl rfl ?_) | (refine isLg rfl ?_; refine lex_S rfl (by kernel_rfl) rfl rfl ?_) | refine aops_nil ?_ | refine lex_done _ rfl (by kernel_rfl) ?_ | refine aw_ct rfl ?_ | refine aw_cf rfl ?_ | refine aw_block ?_ | with_reducible refine then_n ?_ | refine aw_skip ?_ | refine aw_exit ?_ | (with_reducible first | refine then_x ?_ | refine then_r ?_ | refine block_x ?_ | refine block_n ?_ | refine block_r ?_) | refine aw_ret ?_
    refine aw_cond rfl (fun h => ?_) (fun h => ?_)
    · have hlt : i < us.length := by simpa using h
      obtain ⟨x, hx⟩ : ∃ z, us[i]? = some z := ⟨_, List.getElem?_eq_getElem hlt⟩
      obtain ⟨y, hy⟩ : ∃ z, vs[i]? = some z := ⟨_, List.getElem?_eq_getElem (by omega)⟩
      rw [eqLd_at hx hy] at hq
      repeat' first | refine aw_seq ?_ | refine aw_region ?_ | refine aw_lex [] ?_ | (refine isA ?_; refine do_F rfl ?_) | (refine isL ?_; refine lex_F rfl (by kernel_rfl) rfl rfl ?_) | (refine isLg rfl ?_; refine lex_S rfl (by kernel_rfl) rfl rfl ?_) | (refine isAi (x := .tmp 23) ?_; refine do_R rfl (ia_l (t := rwT) (z := x) rfl rfl rfl rfl (Int.natCast_nonneg i) hx) rfl ?_) | (refine isLi (x := .tmp 23) rfl ?_; refine lex_R rfl (by kernel_rfl) rfl (ia_l (t := rwT) (z := x) rfl rfl rfl rfl (Int.natCast_nonneg i) hx) rfl ?_) | (refine isAi (x := .tmp 27) ?_; refine do_R rfl (ia_l (t := rwT) (z := y) rfl rfl rfl rfl (Int.natCast_nonneg i) hy) rfl ?_) | (refine isLi (x := .tmp 27) rfl ?_; refine lex_R rfl (by kernel_rfl) rfl (ia_l (t := rwT) (z := y) rfl rfl rfl rfl (Int.natCast_nonneg i) hy) rfl ?_) | refine do_R rfl (neqRw rfl rfl rfl) rfl ?_ | refine lex_R rfl (by kernel_rfl) rfl (neqRw rfl rfl rfl) rfl ?_ | refine aops_nil ?_ | refine lex_done _ rfl (by kernel_rfl) ?_ | refine aw_ct rfl ?_ | refine aw_cf rfl ?_ | refine aw_block ?_ | with_reducible refine then_n ?_ | refine aw_skip ?_ | refine aw_exit ?_ | (with_reducible first | refine then_x ?_ | refine then_r ?_ | refine block_x ?_ | refine block_n ?_ | refine block_r ?_) | refine aw_ret ?_
      refine aw_cond rfl (fun h1 => ?_) (fun h1 => ?_)
      · have h2 : rwD x y = false := by simpa using h1
        rw [h2, Bool.false_and] at hq
        repeat' first | refine aw_seq ?_ | refine aw_region ?_ | refine aw_lex [] ?_ | (refine isA ?_; refine do_F rfl ?_) | (refine isL ?_; refine lex_F rfl (by kernel_rfl) rfl rfl ?_) | (refine isLg rfl ?_; refine lex_S rfl (by kernel_rfl) rfl rfl ?_) | exact fin1 rfl rfl (congrArg B hq) | refine aops_nil ?_ | refine lex_done _ rfl (by kernel_rfl) ?_ | refine aw_ct rfl ?_ | refine aw_cf rfl ?_ | refine aw_block ?_ | with_reducible refine then_n ?_ | refine aw_skip ?_ | refine aw_exit ?_ | (with_reducible first | refine then_x ?_ | refine then_r ?_ | refine block_x ?_ | refine block_n ?_ | refine block_r ?_) | refine aw_ret ?_
      · have h2 : rwD x y = true := by simpa using h1
        rw [h2, Bool.true_and] at hq
        repeat' first | refine aw_seq ?_ | refine aw_region ?_ | refine aw_lex [] ?_ | (refine isA ?_; refine do_F rfl ?_) | (refine isL ?_; refine lex_F rfl (by kernel_rfl) rfl rfl ?_) | (refine isLg rfl ?_; refine lex_S rfl (by kernel_rfl) rfl rfl ?_) | refine aops_nil ?_ | refine lex_done _ rfl (by kernel_rfl) ?_ | refine aw_ct rfl ?_ | refine aw_cf rfl ?_ | refine aw_block ?_ | with_reducible refine then_n ?_ | refine aw_skip ?_ | refine aw_exit ?_ | (with_reducible first | refine then_x ?_ | refine then_r ?_ | refine block_x ?_ | refine block_n ?_ | refine block_r ?_) | refine aw_ret ?_
        refine ⟨⟨i + 1, hlt, hq⟩, by simp only; omega, ?_⟩
        exact sub_id rfl (by repeat' first | exact EqS.nil | refine EqS.any ?_ | refine EqS.same rfl ?_ | refine EqS.same (i_succ (by assumption) (by omega)) ?_)
    · have hge : i = us.length := by
        have : ¬ ((i : Int) < us.length) := by simpa using h
        omega
      subst hge
      have hq' : eqLd us vs = true := by rw [← hq, List.drop_length, he, List.drop_length]; rfl
      repeat' first | refine aw_seq ?_ | refine aw_region ?_ | refine aw_lex [] ?_ | (refine isA ?_; refine do_F rfl ?_) | (refine isL ?_; refine lex_F rfl (by kernel_rfl) rfl rfl ?_) | (refine isLg rfl ?_; refine lex_S rfl (by kernel_rfl) rfl rfl ?_) | exact fin1 rfl rfl (by rw [hq']) | refine aops_nil ?_ | refine lex_done _ rfl (by kernel_rfl) ?_ | refine aw_ct rfl ?_ | refine aw_cf rfl ?_ | refine aw_block ?_ | with_reducible refine then_n ?_ | refine aw_skip ?_ | refine aw_exit ?_ | (with_reducible first | refine then_x ?_ | refine then_r ?_ | refine block_x ?_ | refine block_n ?_ | refine block_r ?_) | refine aw_ret ?_
end Go.Proofs.Ytkcicbigpbdjpaa.Ab

/- DrwA -/
namespace Go.Proofs.Ytkcicbigpbdjpaa.Ab
open Go.RowKit

def u8T : Ty Int := ⟨1, fun n => [.k (.int .u8 n)], fun _ => rfl, by decide, fun r c hc => by
  simp only [List.mem_cons, List.not_mem_nil, or_false] at hc
  subst hc
  exact ⟨rfl, rfl⟩⟩

structure Cur where
  code : List Int
  pos : Nat
  seed : Int

abbrev curR (c : Cur) : Reg := ⟨154, 3, [lstOf u8T c.code, I c.pos, I c.seed], 0⟩

def seedN (s : Int) : Int := IntKind.i64.wrap (IntKind.i64.wrap (s * 6364136223846793005) + 1442695040888963407)
def val0 (s : Int) : Int := bAnd .i64 (bXor .i64 (bShr .i64 (seedN s) 33) (bShr .i64 (seedN s) 45)) 255
def byteV (c : Cur) : Int := match c.code[c.pos]? with
  | some b => bAnd .i64 (IntKind.i64.wrap (val0 c.seed + IntKind.i64.wrap b)) 255
  | none => val0 c.seed
def byteC (c : Cur) : Cur := ⟨c.code, match c.code[c.pos]? with | some _ => c.pos + 1 | none => c.pos, seedN c.seed⟩

theorem byteV_range (c : Cur) : 0 ≤ byteV c ∧ byteV c ≤ 255 := by
  unfold byteV
  split
  · exact and_byte _
  · exact and_byte _

theorem c_byte (c : Cur) (hl : c.code.length ≤ 1000000000) : Meets Go.Proofs.Try.prog 163 [.ptr 0 0] [curR c] (I (byteV c)) [curR (byteC c)] true := by
  refine meets_of [2] Go.Proofs.Try.func163 rfl rfl ?_
  simp only [Go.Proofs.Try.ntmps163, List.length_cons, List.length_nil, Nat.reduceAdd, Nat.reduceSub, List.replicate_succ, List.replicate_zero, List.cons_append, List.nil_append]
  repeat' first | refine aw_seq ?_ | refine aw_region ?_ | refine aw_lex [] ?_ | (refine isA ?_; refine do_F rfl ?_) | (refine isL ?_; refine lex_F rfl (by kernel_rfl) rfl rfl ?_) | (refine isLg rfl ?_; refine lex_S rfl (by kernel_rfl) rfl rfl ?_) | (refine isL ?_; refine lex_R rfl (by kernel_rfl) rfl (step_shr (n := 33) rfl rfl rfl) rfl ?_) | (refine isL ?_; refine lex_R rfl (by kernel_rfl) rfl (step_shr (n := 45) rfl rfl rfl) rfl ?_) | (refine isL ?_; refine lex_R rfl (by kernel_rfl) rfl (step_xor rfl rfl rfl) rfl ?_) | (refine isL ?_; refine lex_R rfl (by kernel_rfl) rfl (step_and rfl rfl rfl) rfl ?_) | refine aops_nil ?_ | refine lex_done _ rfl (by kernel_rfl) ?_ | refine aw_ct rfl ?_ | refine aw_cf rfl ?_ | refine aw_block ?_ | with_reducible refine then_n ?_ | refine aw_skip ?_ | refine aw_exit ?_ | (with_reducible first | refine then_x ?_ | refine then_r ?_ | refine block_x ?_ | refine block_n ?_ | refine block_r ?_) | refine aw_ret ?_
  refine aw_cond rfl (fun h => ?_) (fun h => ?_)
  · have hlt : c.pos < c.code.length := by have := of_decide_eq_true h; omega
    obtain ⟨z, hz⟩ : ∃ z, c.code[c.pos]? = some z := ⟨_, List.getElem?_eq_getElem hlt⟩
    have e1 : byteV c = bAnd .i64 (IntKind.i64.wrap (val0 c.seed + IntKind.i64.wrap z)) 255 := by rw [byteV, hz]
    have e2 : byteC c = ⟨c.code, c.pos + 1, seedN c.seed⟩ := by rw [byteC, hz]
    repeat' first | refine aw_seq ?_ | refine aw_region ?_ | refine aw_lex [] ?_ | (refine isA ?_; refine do_F rfl ?_) | (refine isL ?_; refine lex_F rfl (by kernel_rfl) rfl rfl ?_) | (refine isLg rfl ?_; refine lex_S rfl (by kernel_rfl) rfl rfl ?_) | (refine isAi ?_; refine do_R rfl (ia_l (t := u8T) (z := z) rfl rfl rfl rfl (Int.natCast_nonneg c.pos) hz) rfl ?_) | (refine isLi rfl ?_; refine lex_R rfl (by kernel_rfl) rfl (ia_l (t := u8T) (z := z) rfl rfl rfl rfl (Int.natCast_nonneg c.pos) hz) rfl ?_) | (refine isL ?_; refine lex_R rfl (by kernel_rfl) rfl (step_and rfl rfl rfl) rfl ?_) | exact (by rw [e1, e2]; exact finM 1 [0] fix1 (by decide) rfl (le_refl rfl) (.cons rfl rfl rfl rfl (les_cons (le_refl rfl) (les_cons (le_i hlt (by omega)) (les_cons (le_refl rfl) les_nil))) .nil)) | refine aops_nil ?_ | refine lex_done _ rfl (by kernel_rfl) ?_ | refine aw_ct rfl ?_ | refine aw_cf rfl ?_ | refine aw_block ?_ | with_reducible refine then_n ?_ | refine aw_skip ?_ | refine aw_exit ?_ | (with_reducible first | refine then_x ?_ | refine then_r ?_ | refine block_x ?_ | refine block_n ?_ | refine block_r ?_) | refine aw_ret ?_
  · have hge : c.code.length ≤ c.pos := by have := of_decide_eq_false h; omega
    have hz : c.code[c.pos]? = none := List.getElem?_eq_none hge
    have e1 : byteV c = val0 c.seed := by rw [byteV, hz]
    have e2 : byteC c = ⟨c.code, c.pos, seedN c.seed⟩ := by rw [byteC, hz]
    repeat' first | refine aw_seq ?_ | refine aw_region ?_ | refine aw_lex [] ?_ | (refine isA ?_; refine do_F rfl ?_) | (refine isL ?_; refine lex_F rfl (by kernel_rfl) rfl rfl ?_) | (refine isLg rfl ?_; refine lex_S rfl (by kernel_rfl) rfl rfl ?_) | exact (by rw [e1, e2]; exact finM 1 [0] fix1 (by decide) rfl (le_refl rfl) (.cons rfl rfl rfl rfl (by repeat' first | exact les_nil | refine les_cons ?_ ?_ | exact le_any | exact le_refl rfl | exact le_sl rfl rfl | exact le_ptr rfl) .nil)) | refine aops_nil ?_ | refine lex_done _ rfl (by kernel_rfl) ?_ | refine aw_ct rfl ?_ | refine aw_cf rfl ?_ | refine aw_block ?_ | with_reducible refine then_n ?_ | refine aw_skip ?_ | refine aw_exit ?_ | (with_reducible first | refine then_x ?_ | refine then_r ?_ | refine block_x ?_ | refine block_n ?_ | refine block_r ?_) | refine aw_ret ?_
end Go.Proofs.Ytkcicbigpbdjpaa.Ab

/- DrwB -/
namespace Go.Proofs.Ytkcicbigpbdjpaa.Ab
open Go.RowKit

theorem byteC_code (c : Cur) : (byteC c).code = c.code := rfl
theorem curR_noH (c : Cur) : NoH (curR c).cells := noHs_mem rfl

def four (a b c d : Int) : Int := IntKind.i64.wrap (IntKind.i64.wrap (IntKind.i64.wrap (IntKind.i64.wrap (a * 16777216) + IntKind.i64.wrap (b * 65536)) + IntKind.i64.wrap (c * 256)) + d)
theorem four_pos {a b c d : Int} (ha : 0 ≤ a ∧ a ≤ 255) (hb : 0 ≤ b ∧ b ≤ 255) (hc : 0 ≤ c ∧ c ≤ 255) (hd : 0 ≤ d ∧ d ≤ 255) : 0 ≤ four a b c d := by
  have e1 : IntKind.i64.wrap (a * 16777216) = a * 16777216 := by rw [IntKind.wrap_i64]; omega
  have e2 : IntKind.i64.wrap (b * 65536) = b * 65536 := by rw [IntKind.wrap_i64]; omega
  have e3 : IntKind.i64.wrap (c * 256) = c * 256 := by rw [IntKind.wrap_i64]; omega
  have e4 : IntKind.i64.wrap (a * 16777216 + b * 65536) = a * 16777216 + b * 65536 := by rw [IntKind.wrap_i64]; omega
  have e5 : IntKind.i64.wrap (a * 16777216 + b * 65536 + c * 256) = a * 16777216 + b * 65536 + c * 256 := by rw [IntKind.wrap_i64]; omega
  have e6 : IntKind.i64.wrap (a * 16777216 + b * 65536 + c * 256 + d) = a * 16777216 + b * 65536 + c * 256 + d := by rw [IntKind.wrap_i64]; omega
  rw [four, e1, e2, e4, e3, e5, e6]
  omega

def beV (n : Int) (c : Cur) : Int := cond (decide (n ≤ 0)) 0 (cond (decide (n ≤ 256)) ((byteV c).tmod n) ((four (byteV c) (byteV (byteC c)) (byteV (byteC (byteC c))) (byteV (byteC (byteC (byteC c))))).tmod n))
def beC (n : Int) (c : Cur) : Cur := cond (decide (n ≤ 0)) c (cond (decide (n ≤ 256)) (byteC c) (byteC (byteC (byteC (byteC c)))))
theorem beC_code (n : Int) (c : Cur) : (beC n c).code = c.code := by
  unfold beC
  cases decide (n ≤ 0) <;> cases decide (n ≤ 256) <;> rfl
theorem beV_range {n : Int} (h : 0 < n) (c : Cur) : 0 ≤ beV n c ∧ beV n c < n := by
  have h0 : decide (n ≤ 0) = false := decide_eq_false (by omega)
  unfold beV
  rw [h0, cond_false]
  cases decide (n ≤ 256) with
  | true => exact ⟨Int.tmod_nonneg _ (byteV_range c).1, Int.tmod_lt_of_pos _ h⟩
  | false => exact ⟨Int.tmod_nonneg _ (four_pos (byteV_range _) (byteV_range _) (byteV_range _) (byteV_range _)), Int.tmod_lt_of_pos _ h⟩

theorem c_lbel (n : Int) (c : Cur) (hl : c.code.length ≤ 1000000000) : Meets Go.Proofs.Try.prog 143 [.ptr 0 0, I n] [curR c] (I (beV n c)) [curR (beC n c)] true := by
  refine meets_of [4] Go.Proofs.Try.func143 rfl rfl ?_
  simp only [Go.Proofs.Try.ntmps143, List.length_cons, List.length_nil, Nat.reduceAdd, Nat.reduceSub, List.replicate_succ, List.replicate_zero, List.cons_append, List.nil_append]
  repeat' first | refine aw_seq ?_ | refine aw_region ?_ | refine aw_lex [] ?_ | (refine isA ?_; refine do_F rfl ?_) | (refine isL ?_; refine lex_F rfl (by kernel_rfl) rfl rfl ?_) | (refine isLg rfl ?_; refine lex_S rfl (by kernel_rfl) rfl rfl ?_) | refine aops_nil ?_ | refine lex_done _ rfl (by kernel_rfl) ?_ | refine aw_ct rfl ?_ | refine aw_cf rfl ?_ | refine aw_block ?_ | with_reducible refine then_n ?_ | refine aw_skip ?_ | refine aw_exit ?_ | (with_reducible first | refine then_x ?_ | refine then_r ?_ | refine block_x ?_ | refine block_n ?_ | refine block_r ?_) | refine aw_ret ?_
  refine aw_cond rfl (fun h => ?_) (fun h => ?_)
  · repeat' first | refine aw_seq ?_ | refine aw_region ?_ | refine aw_lex [] ?_ | (refine isA ?_; refine do_F rfl ?_) | (refine isL ?_; refine lex_F rfl (by kernel_rfl) rfl rfl ?_) | (refine isLg rfl ?_; refine lex_S rfl (by kernel_rfl) rfl rfl ?_) | exact (by rw [beV, beC, h]; exact finM 1 [0] fix1 (by decide) rfl (le_refl rfl) (.cons rfl rfl rfl rfl (les_refl (curR_noH c)) .nil)) | refine aops_nil ?_ | refine lex_done _ rfl (by kernel_rfl) ?_ | refine aw_ct rfl ?_ | refine aw_cf rfl ?_ | refine aw_block ?_ | with_reducible refine then_n ?_ | refine aw_skip ?_ | refine aw_exit ?_ | (with_reducible first | refine then_x ?_ | refine then_r ?_ | refine block_x ?_ | refine block_n ?_ | refine block_r ?_) | refine aw_ret ?_
  · have hn : n ≠ 0 := by have := of_decide_eq_false h; omega
    repeat' first | refine aw_seq ?_ | refine aw_region ?_ | refine aw_lex [] ?_ | (refine isA ?_; refine do_F rfl ?_) | (refine isL ?_; refine lex_F rfl (by kernel_rfl) rfl rfl ?_) | (refine isLg rfl ?_; refine lex_S rfl (by kernel_rfl) rfl rfl ?_) | refine aops_nil ?_ | refine lex_done _ rfl (by kernel_rfl) ?_ | refine aw_ct rfl ?_ | refine aw_cf rfl ?_ | refine aw_block ?_ | with_reducible refine then_n ?_ | refine aw_skip ?_ | refine aw_exit ?_ | (with_reducible first | refine then_x ?_ | refine then_r ?_ | refine block_x ?_ | refine block_n ?_ | refine block_r ?_) | refine aw_ret ?_
    refine aw_cond rfl (fun h' => ?_) (fun h' => ?_)
    · repeat' first | refine aw_seq ?_ | refine aw_region ?_ | refine aw_lex [] ?_ | (refine isA ?_; refine do_F rfl ?_) | (refine isL ?_; refine lex_F rfl (by kernel_rfl) rfl rfl ?_) | (refine isLg rfl ?_; refine lex_S rfl (by kernel_rfl) rfl rfl ?_) | (refine isAc 163 ?_; refine do_R rfl (step_callMs (K := []) (Rs' := [_]) [0] (by decide) rfl (c_byte c hl) (.cons rfl rfl rfl (curR_noH _) (curR_noH _) .nil) (.cons (.ptr rfl) .nil) (fun q hq => by cases hq) rfl) rfl ?_) | (refine isLc 163 rfl ?_; refine lex_R rfl (by kernel_rfl) rfl (step_callMs (K := []) (Rs' := [_]) [0] (by decide) rfl (c_byte c hl) (.cons rfl rfl rfl (curR_noH _) (curR_noH _) .nil) (.cons (.ptr rfl) .nil) (fun q hq => by cases hq) rfl) rfl ?_) | (refine isA ?_; refine do_R rfl (step_rem rfl rfl rfl hn) rfl ?_) | exact (by rw [beV, beC, h, h']; exact finM 1 [0] fix1 (by decide) rfl (le_refl rfl) (.cons rfl rfl rfl rfl (les_refl (curR_noH (byteC c))) .nil)) | refine aops_nil ?_ | refine lex_done _ rfl (by kernel_rfl) ?_ | refine aw_ct rfl ?_ | refine aw_cf rfl ?_ | refine aw_block ?_ | with_reducible refine then_n ?_ | refine aw_skip ?_ | refine aw_exit ?_ | (with_reducible first | refine then_x ?_ | refine then_r ?_ | refine block_x ?_ | refine block_n ?_ | refine block_r ?_) | refine aw_ret ?_
    · repeat' first | refine aw_seq ?_ | refine aw_region ?_ | refine aw_lex [] ?_ | (refine isA ?_; refine do_F rfl ?_) | (refine isL ?_; refine lex_F rfl (by kernel_rfl) rfl rfl ?_) | (refine isLg rfl ?_; refine lex_S rfl (by kernel_rfl) rfl rfl ?_) | (refine isAc 163 (x := #[.tmp 17]) ?_; refine do_R rfl (step_callMs (K := []) (Rs' := [_]) [0] (by decide) rfl (c_byte c hl) (.cons rfl rfl rfl (curR_noH _) (curR_noH _) .nil) (.cons (.ptr rfl) .nil) (fun q hq => by cases hq) rfl) rfl ?_) | (refine isAc 163 (x := #[.tmp 19]) ?_; refine do_R rfl (step_callMs (K := []) (Rs' := [_]) [0] (by decide) rfl (c_byte (byteC c) hl) (.cons rfl rfl rfl (curR_noH _) (curR_noH _) .nil) (.cons (.ptr rfl) .nil) (fun q hq => by cases hq) rfl) rfl ?_) | (refine isAc 163 (x := #[.tmp 21]) ?_; refine do_R rfl (step_callMs (K := []) (Rs' := [_]) [0] (by decide) rfl (c_byte (byteC (byteC c)) hl) (.cons rfl rfl rfl (curR_noH _) (curR_noH _) .nil) (.cons (.ptr rfl) .nil) (fun q hq => by cases hq) rfl) rfl ?_) | (refine isAc 163 (x := #[.tmp 23]) ?_; refine do_R rfl (step_callMs (K := []) (Rs' := [_]) [0] (by decide) rfl (c_byte (byteC (byteC (byteC c))) hl) (.cons rfl rfl rfl (curR_noH _) (curR_noH _) .nil) (.cons (.ptr rfl) .nil) (fun q hq => by cases hq) rfl) rfl ?_) | (refine isA ?_; refine do_R rfl (step_rem rfl rfl rfl hn) rfl ?_) | exact (by rw [beV, beC, h, h']; exact finM 1 [0] fix1 (by decide) rfl (le_refl rfl) (.cons rfl rfl rfl rfl (les_refl (curR_noH (byteC (byteC (byteC (byteC c)))))) .nil)) | refine aops_nil ?_ | refine lex_done _ rfl (by kernel_rfl) ?_ | refine aw_ct rfl ?_ | refine aw_cf rfl ?_ | refine aw_block ?_ | with_reducible refine then_n ?_ | refine aw_skip ?_ | refine aw_exit ?_ | (with_reducible first | refine then_x ?_ | refine then_r ?_ | refine block_x ?_ | refine block_n ?_ | refine block_r ?_) | refine aw_ret ?_

theorem c_once (n : Int) (c : Cur) (hl : c.code.length ≤ 1000000000) : Meets Go.Proofs.Try.prog 128 [.ptr 0 0, I n] [curR c] (B (decide (beV n c = 0))) [curR (beC n c)] true := by
  refine meets_of [4] Go.Proofs.Try.func128 rfl rfl ?_
  simp only [Go.Proofs.Try.ntmps128, List.length_cons, List.length_nil, Nat.reduceAdd, Nat.reduceSub, List.replicate_succ, List.replicate_zero, List.cons_append, List.nil_append]
  repeat' first | refine aw_seq ?_ | refine aw_region ?_ | refine aw_lex [] ?_ | (refine isA ?_; refine do_F rfl ?_) | (refine isL ?_; refine lex_F rfl (by kernel_rfl) rfl rfl ?_) | (refine isLg rfl ?_; refine lex_S rfl (by kernel_rfl) rfl rfl ?_) | (refine isAc 143 ?_; refine do_R rfl (step_callMs (K := []) (Rs' := [_]) [0] (by decide) rfl (c_lbel n c hl) (.cons rfl rfl rfl (curR_noH _) (curR_noH _) .nil) (.cons (.ptr rfl) (.cons (.same rfl) .nil)) (fun q hq => by cases hq) rfl) rfl ?_) | (refine isLc 143 rfl ?_; refine lex_R rfl (by kernel_rfl) rfl (step_callMs (K := []) (Rs' := [_]) [0] (by decide) rfl (c_lbel n c hl) (.cons rfl rfl rfl (curR_noH _) (curR_noH _) .nil) (.cons (.ptr rfl) (.cons (.same rfl) .nil)) (fun q hq => by cases hq) rfl) rfl ?_) | exact finM 1 [0] fix1 (by decide) rfl (le_refl rfl) (.cons rfl rfl rfl rfl (les_refl (curR_noH _)) .nil) | refine aops_nil ?_ | refine lex_done _ rfl (by kernel_rfl) ?_ | refine aw_ct rfl ?_ | refine aw_cf rfl ?_ | refine aw_block ?_ | with_reducible refine then_n ?_ | refine aw_skip ?_ | refine aw_exit ?_ | (with_reducible first | refine then_x ?_ | refine then_r ?_ | refine block_x ?_ | refine block_n ?_ | refine block_r ?_) | refine aw_ret ?_

theorem ld_at {P : Program} {o : Oper} {ρ : Operand → V} {H : List Reg} {t i : Nat} {x : Operand} {cs : List V} {v : V} [ht : Sc P t] (ho : o.op = .load t x) (hx : ρ x = .pref (cs.drop i)) (hz : cs[i]? = some v) : Step P o ρ H v H := by
  have hlt := (List.getElem?_eq_some_iff.1 hz).1
  rw [List.drop_eq_getElem_cons hlt] at hx
  have hv : cs[i] = v := by rw [List.getElem?_eq_getElem hlt] at hz; exact Option.some.inj hz
  rw [hv] at hx
  exact step_load_pref ho hx

theorem c_pick (xs : List V) (n : Nat) (z : Int) (c : Cur) (hl : c.code.length ≤ 1000000000) (h0 : 0 < n) (hz : xs[(beV n c).toNat]? = some (I z)) : Meets Go.Proofs.Try.prog 131 [.ptr 0 0, .lst n xs] [curR c] (I z) [curR (beC n c)] true := by
  obtain ⟨r0, r1⟩ := beV_range (n := n) (by omega) c
  refine meets_of [4] Go.Proofs.Try.func131 rfl rfl ?_
  simp only [Go.Proofs.Try.ntmps131, List.length_cons, List.length_nil, Nat.reduceAdd, Nat.reduceSub, List.replicate_succ, List.replicate_zero, List.cons_append, List.nil_append]
  repeat' first | refine aw_seq ?_ | refine aw_region ?_ | refine aw_lex [] ?_ | (refine isA ?_; refine do_F rfl ?_) | (refine isL ?_; refine lex_F rfl (by kernel_rfl) rfl rfl ?_) | (refine isLg rfl ?_; refine lex_S rfl (by kernel_rfl) rfl rfl ?_) | (refine isAc 143 ?_; refine do_R rfl (step_callMs (K := []) (Rs' := [_]) [0] (by decide) rfl (c_lbel n c hl) (.cons rfl rfl rfl (curR_noH _) (curR_noH _) .nil) (.cons (.ptr rfl) (.cons (.same rfl) .nil)) (fun q hq => by cases hq) rfl) rfl ?_) | (refine isLc 143 rfl ?_; refine lex_R rfl (by kernel_rfl) rfl (step_callMs (K := []) (Rs' := [_]) [0] (by decide) rfl (c_lbel n c hl) (.cons rfl rfl rfl (curR_noH _) (curR_noH _) .nil) (.cons (.ptr rfl) (.cons (.same rfl) .nil)) (fun q hq => by cases hq) rfl) rfl ?_) | (refine isAi ?_; refine do_R rfl (step_ia_lst rfl rfl rfl r0 r1) rfl ?_) | (refine isLi rfl ?_; refine lex_R rfl (by kernel_rfl) rfl (step_ia_lst rfl rfl rfl r0 r1) rfl ?_) | (refine isAl ?_; refine do_R rfl (ld_at rfl rfl (by rw [Nat.mul_one]; exact hz)) rfl ?_) | exact finM 1 [0] fix1 (by decide) rfl (le_refl rfl) (.cons rfl rfl rfl rfl (les_refl (curR_noH _)) .nil) | refine aops_nil ?_ | refine lex_done _ rfl (by kernel_rfl) ?_ | refine aw_ct rfl ?_ | refine aw_cf rfl ?_ | refine aw_block ?_ | with_reducible refine then_n ?_ | refine aw_skip ?_ | refine aw_exit ?_ | (with_reducible first | refine then_x ?_ | refine then_r ?_ | refine block_x ?_ | refine block_n ?_ | refine block_r ?_) | refine aw_ret ?_

/-! ### A new cursor -/
def newS (xs : List Int) : Nat → Int
  | 0 => IntKind.i64.wrap (10101 + xs.length)
  | i + 1 => match xs[i]? with
    | some b => bAnd .i64 (IntKind.i64.wrap (IntKind.i64.wrap (IntKind.i64.wrap (newS xs i * 131) + IntKind.i64.wrap b) + 7)) 1073741823
    | none => newS xs i
def newC (xs : List Int) : Cur := ⟨xs, 0, newS xs (min xs.length 4000)⟩

theorem c_new (xs : List Int) (hl : xs.length ≤ 1000000000) : Meets Go.Proofs.Try.prog 104 [lstOf u8T xs] [] (.ptr 0 0) [curR (newC xs)] true := by
  refine meets_of [2] Go.Proofs.Try.func104 rfl rfl ?_
  simp only [Go.Proofs.Try.ntmps104, List.length_cons, List.length_nil, Nat.reduceAdd, Nat.reduceSub, List.replicate_succ, List.replicate_zero, List.cons_append, List.nil_append]
  repeat' first | refine aw_seq ?_ | refine aw_region ?_ | refine aw_lex [] ?_ | (refine isA ?_; refine do_F rfl ?_) | (refine isL ?_; refine lex_F rfl (by kernel_rfl) rfl rfl ?_) | (refine isLg rfl ?_; refine lex_S rfl (by kernel_rfl) rfl rfl ?_) | refine aops_nil ?_ | refine lex_done _ rfl (by kernel_rfl) ?_ | refine aw_ct rfl ?_ | refine aw_cf rfl ?_ | refine aw_block ?_ | with_reducible refine then_n ?_ | refine aw_skip ?_ | refine aw_exit ?_ | (with_reducible first | refine then_x ?_ | refine then_r ?_ | refine block_x ?_ | refine block_n ?_ | refine block_r ?_) | refine aw_ret ?_
  refine aw_loop (α := { i : Nat // i ≤ min xs.length 4000 }) (fun i => ⟨[lstOf u8T xs, .any, .any, I (newS xs i.1), I i.1, .any, .any, .any, .any, .any, .any, .any, .any, .any, .any, .any, .any, .any, .any, .any, .any, .any, .any, .any, .any, .any, .any, .any, .any, .any, .any, .any], [], 0⟩) (fun i => xs.length - i.1) ⟨0, Nat.zero_le _⟩ ?_ ?_
  · exact sub0 [] rfl rfl (by decide) .nil (by repeat' first | exact les_nil | refine les_cons ?_ ?_ | exact le_any | exact le_refl rfl | exact le_sl rfl rfl | exact le_ptr rfl)
  · rintro ⟨i, hi⟩
    have hdone : i = min xs.length 4000 → newC xs = ⟨xs, 0, newS xs i⟩ := fun e => by rw [newC, e]
    repeat' first | refine aw_seq ?_ | refine aw_region ?_ | refine aw_lex [] ?_ | (refine isA ?_; refine do_F rfl ?_) | (refine isL ?_; refine lex_F rfl (by kernel_rfl) rfl rfl ?_) | (refine isLg rfl ?_; refine lex_S rfl (by kernel_rfl) rfl rfl ?_) | refine aops_nil ?_ | refine lex_done _ rfl (by kernel_rfl) ?_ | refine aw_ct rfl ?_ | refine aw_cf rfl ?_ | refine aw_block ?_ | with_reducible refine then_n ?_ | refine aw_skip ?_ | refine aw_exit ?_ | (with_reducible first | refine then_x ?_ | refine then_r ?_ | refine block_x ?_ | refine block_n ?_ | refine block_r ?_) | refine aw_ret ?_
    refine do_br rfl rfl (fun h => ?_) (fun h => ?_)
    · have hlt : i < xs.length := by simpa using h
      obtain ⟨z, hz⟩ : ∃ z, xs[i]? = some z := ⟨_, List.getElem?_eq_getElem hlt⟩
      have es : newS xs (i + 1) = bAnd .i64 (IntKind.i64.wrap (IntKind.i64.wrap (IntKind.i64.wrap (newS xs i * 131) + IntKind.i64.wrap z) + 7)) 1073741823 := by rw [newS, hz]
      repeat' first | refine aw_seq ?_ | refine aw_region ?_ | refine aw_lex [] ?_ | (refine isA ?_; refine do_F rfl ?_) | (refine isL ?_; refine lex_F rfl (by kernel_rfl) rfl rfl ?_) | (refine isLg rfl ?_; refine lex_S rfl (by kernel_rfl) rfl rfl ?_) | refine aops_nil ?_ | refine lex_done _ rfl (by kernel_rfl) ?_ | refine aw_ct rfl ?_ | refine aw_cf rfl ?_ | refine aw_block ?_ | with_reducible refine then_n ?_ | refine aw_skip ?_ | refine aw_exit ?_ | (with_reducible first | refine then_x ?_ | refine then_r ?_ | refine block_x ?_ | refine block_n ?_ | refine block_r ?_) | refine aw_ret ?_
      refine aw_cond rfl (fun h' => ?_) (fun h' => ?_)
      · have h4 : i < 4000 := by have := of_decide_eq_true h'; simp only at this; omega
        repeat' first | refine aw_seq ?_ | refine aw_region ?_ | refine aw_lex [] ?_ | (refine isA ?_; refine do_F rfl ?_) | (refine isL ?_; refine lex_F rfl (by kernel_rfl) rfl rfl ?_) | (refine isLg rfl ?_; refine lex_S rfl (by kernel_rfl) rfl rfl ?_) | (refine isAi ?_; refine do_R rfl (ia_l (t := u8T) (z := z) rfl rfl rfl rfl (Int.natCast_nonneg i) hz) rfl ?_) | (refine isLi rfl ?_; refine lex_R rfl (by kernel_rfl) rfl (ia_l (t := u8T) (z := z) rfl rfl rfl rfl (Int.natCast_nonneg i) hz) rfl ?_) | (refine isA ?_; refine do_R rfl (step_and rfl rfl rfl) rfl ?_) | refine aops_nil ?_ | refine lex_done _ rfl (by kernel_rfl) ?_ | refine aw_ct rfl ?_ | refine aw_cf rfl ?_ | refine aw_block ?_ | with_reducible refine then_n ?_ | refine aw_skip ?_ | refine aw_exit ?_ | (with_reducible first | refine then_x ?_ | refine then_r ?_ | refine block_x ?_ | refine block_n ?_ | refine block_r ?_) | refine aw_ret ?_
        refine ⟨⟨i + 1, by omega⟩, by simp only; omega, ?_⟩
        exact sub0 [] rfl rfl (by decide) .nil (by
          repeat' first | exact les_nil | refine les_cons ?_ ?_ | exact le_any | exact le_refl rfl | exact le_i hlt (by omega) | exact le_k (congrArg _ es))
      · have h4 : ¬ i < 4000 := by have := of_decide_eq_false h'; simp only at this; omega
        repeat' first | refine aw_seq ?_ | refine aw_region ?_ | refine aw_lex [] ?_ | (refine isA ?_; refine do_F rfl ?_) | (refine isL ?_; refine lex_F rfl (by kernel_rfl) rfl rfl ?_) | (refine isLg rfl ?_; refine lex_S rfl (by kernel_rfl) rfl rfl ?_) | exact (by rw [hdone (by omega)]; exact finM 0 [0] (fun i hi => absurd hi (Nat.not_lt_zero _)) (by decide) rfl (le_ptr rfl) (.cons rfl rfl rfl rfl (by repeat' first | exact les_nil | refine les_cons ?_ ?_ | exact le_any | exact le_refl rfl | exact le_sl rfl rfl | exact le_ptr rfl) .nil)) | refine aops_nil ?_ | refine lex_done _ rfl (by kernel_rfl) ?_ | refine aw_ct rfl ?_ | refine aw_cf rfl ?_ | refine aw_block ?_ | with_reducible refine then_n ?_ | refine aw_skip ?_ | refine aw_exit ?_ | (with_reducible first | refine then_x ?_ | refine then_r ?_ | refine block_x ?_ | refine block_n ?_ | refine block_r ?_) | refine aw_ret ?_
    · have hge : ¬ i < xs.length := by simpa using h
      repeat' first | refine aw_seq ?_ | refine aw_region ?_ | refine aw_lex [] ?_ | (refine isA ?_; refine do_F rfl ?_) | (refine isL ?_; refine lex_F rfl (by kernel_rfl) rfl rfl ?_) | (refine isLg rfl ?_; refine lex_S rfl (by kernel_rfl) rfl rfl ?_) | exact (by rw [hdone (by omega)]; exact finM 0 [0] (fun i hi => absurd hi (Nat.not_lt_zero _)) (by decide) rfl (le_ptr rfl) (.cons rfl rfl rfl rfl (by repeat' first | exact les_nil | refine les_cons ?_ ?_ | exact le_any | exact le_refl rfl | exact le_sl rfl rfl | exact le_ptr rfl) .nil)) | refine aops_nil ?_ | refine lex_done _ rfl (by kernel_rfl) ?_ | refine aw_ct rfl ?_ | refine aw_cf rfl ?_ | refine aw_block ?_ | with_reducible refine then_n ?_ | refine aw_skip ?_ | refine aw_exit ?_ | (with_reducible first | refine then_x ?_ | refine then_r ?_ | refine block_x ?_ | refine block_n ?_ | refine block_r ?_) | refine aw_ret ?_
end Go.Proofs.Ytkcicbigpbdjpaa.Ab

/- DrwP -/
namespace Go.Proofs.Ytkcicbigpbdjpaa.Ab
open Go.RowKit

def pkV (zs : List Int) (c : Cur) : Int := (zs[(beV zs.length c).toNat]?).getD 0
theorem c_pickL (zs : List Int) (c : Cur) (hl : c.code.length ≤ 1000000000) (h0 : 0 < zs.length) : Meets Go.Proofs.Try.prog 131 [.ptr 0 0, .lst zs.length (zs.map I)] [curR c] (I (pkV zs c)) [curR (beC zs.length c)] true := by
  obtain ⟨r0, r1⟩ := beV_range (n := zs.length) (by omega) c
  refine c_pick _ _ _ c hl h0 ?_
  have hlt : (beV zs.length c).toNat < zs.length := by omega
  rw [List.getElem?_map, pkV, List.getElem?_eq_getElem hlt]
  rfl
theorem finMC1 {l : List V} {H : List Reg} {t : Tmp} {n : Nat} {v r : V} {K : Reg} (hv : CellIs l H t n v) (hr : Le [0] r v) (hH : HLes [0] H [0] [K]) :
    (Exit.ret = .ret ∨ Exit.ret = .normal) ∧ ∃ v, CellIs l H t n v ∧ Out true r [K] v ⟨l, H, 1⟩ := ⟨Or.inl rfl, v, hv, out_of (S := ⟨l, H, 1⟩) [0] fix1 (hle_of (by decide) hH) hr (Or.inl rfl)⟩
/-- A list is drawn off the cursor in row h: a new row behind the others. -/
theorem st_drawL {o : Oper} {ρ : Operand → V} {H H' : List Reg} {f : FuncId} {a : Operand} {args : List Operand} {ats : Array TypeId} {cargs : List V} {m : Nat} {c c' : Cur} {R : Reg} (n h : Nat) [he : Ent Go.Proofs.Try.prog f]
    (hm : Meets Go.Proofs.Try.prog f (.ptr 0 0 :: cargs) [curR c] (.sl 1 0 m) [curR c', R] true) (ho : o.op = .call { callee := .value (.func f), args := (a :: args).toArray, argTypes := ats })
    (ha : ρ a = .ptr h 0) (hargs : args.map ρ = cargs) (hN : noHs cargs = true) (hR : NoH R.cells) (hH : H[h]? = some (curR c)) (hn : H.length = n) (hH' : H.set h (curR c') ++ [R] = H') : Step Go.Proofs.Try.prog o ρ H (.sl n 0 m) H' := by
  subst hn
  refine st_callN (args := a :: args) (K := [R]) (K2 := [R]) (Rs' := [curR c']) [h] (by simp) ho hm (.cons (R0 := curR c) (R' := curR c') hH rfl (passS_noH (curR_noH _)) Nat.zero_ne_one (.rest (curR_noH _)) .nil) ?_ (.ofN (fun q hq => by simp at hq; subst hq; exact hR)) (.sl rfl) hH'
  show PassS [h] (ρ a :: args.map ρ) _
  rw [ha, hargs]
  exact .cons (.ptr rfl) (passS_noH (noHs_mem hN))

/-! ### A row -/
def rowD (keys : Int) (c : Cur) : Rw × Cur := (⟨beV keys c, beV 100 (beC keys c), pkV [0, 0, 1, 2, 3] (beC 100 (beC keys c))⟩, beC 5 (beC 100 (beC keys c)))
theorem rowD_code (keys : Int) (c : Cur) : (rowD keys c).2.code = c.code := by
  show (beC 5 (beC 100 (beC keys c))).code = _
  rw [beC_code, beC_code, beC_code]
theorem c_row (keys : Int) (c : Cur) (hl : c.code.length ≤ 1000000000) : Meets Go.Proofs.Try.prog 159 [.ptr 0 0, I keys] [curR c] (.agg (rwE (rowD keys c).1)) [curR (rowD keys c).2] true := by
  have h1 : (beC keys c).code.length ≤ 1000000000 := by rw [beC_code]; exact hl
  have h2 : (beC 100 (beC keys c)).code.length ≤ 1000000000 := by rw [beC_code]; exact h1
  refine meets_ofC 4 71 Go.Proofs.Try.func159 rfl rfl ?_
  simp only [Go.Proofs.Try.ntmps159, List.length_cons, List.length_nil, Nat.reduceAdd, Nat.reduceSub, List.replicate_succ, List.replicate_zero, List.cons_append, List.nil_append]
  repeat' first | (refine isA ?_; refine do_R rfl (lit_of rfl rfl rfl rfl rfl) rfl ?_) | refine aw_seq ?_ | refine aw_region ?_ | refine aw_lex [] ?_ | (refine isA ?_; refine do_F rfl ?_) | (refine isL ?_; refine lex_F rfl (by kernel_rfl) rfl rfl ?_) | (refine isLg rfl ?_; refine lex_S rfl (by kernel_rfl) rfl rfl ?_) | (refine isAc 143 (x := #[.tmp 5, .tmp 6]) ?_; refine do_R rfl (step_callMs (K := []) (Rs' := [_]) [0] (by decide) rfl (c_lbel keys c hl) (.cons rfl rfl rfl (curR_noH _) (curR_noH _) .nil) (.cons (.ptr rfl) (.cons (.same rfl) .nil)) (fun q hq => by cases hq) rfl) rfl ?_) | (refine isLc 143 (x := #[.tmp 5, .tmp 6]) rfl ?_; refine lex_R rfl (by kernel_rfl) rfl (step_callMs (K := []) (Rs' := [_]) [0] (by decide) rfl (c_lbel keys c hl) (.cons rfl rfl rfl (curR_noH _) (curR_noH _) .nil) (.cons (.ptr rfl) (.cons (.same rfl) .nil)) (fun q hq => by cases hq) rfl) rfl ?_) | (refine isAc 143 ?_; refine do_R rfl (step_callMs (K := []) (Rs' := [_]) [0] (by decide) rfl (c_lbel 100 (beC keys c) h1) (.cons rfl rfl rfl (curR_noH _) (curR_noH _) .nil) (.cons (.ptr rfl) (.cons (.same rfl) .nil)) (fun q hq => by cases hq) rfl) rfl ?_) | (refine isLc 143 rfl ?_; refine lex_R rfl (by kernel_rfl) rfl (step_callMs (K := []) (Rs' := [_]) [0] (by decide) rfl (c_lbel 100 (beC keys c) h1) (.cons rfl rfl rfl (curR_noH _) (curR_noH _) .nil) (.cons (.ptr rfl) (.cons (.same rfl) .nil)) (fun q hq => by cases hq) rfl) rfl ?_) | (refine isAc 131 ?_; refine do_R rfl (step_callMs (K := []) (Rs' := [_]) [0] (by decide) rfl (c_pickL [0, 0, 1, 2, 3] (beC 100 (beC keys c)) h2 (by decide)) (.cons rfl rfl rfl (curR_noH _) (curR_noH _) .nil) (.cons (.ptr rfl) (.cons (.same rfl) .nil)) (fun q hq => by cases hq) rfl) rfl ?_) | (refine isLc 131 rfl ?_; refine lex_R rfl (by kernel_rfl) rfl (step_callMs (K := []) (Rs' := [_]) [0] (by decide) rfl (c_pickL [0, 0, 1, 2, 3] (beC 100 (beC keys c)) h2 (by decide)) (.cons rfl rfl rfl (curR_noH _) (curR_noH _) .nil) (.cons (.ptr rfl) (.cons (.same rfl) .nil)) (fun q hq => by cases hq) rfl) rfl ?_) | exact finMC1 (cell_is rfl rfl rfl rfl rfl) (le_refl rfl) (.cons rfl rfl rfl rfl (les_refl (curR_noH _)) .nil) | refine aops_nil ?_ | refine lex_done _ rfl (by kernel_rfl) ?_ | refine aw_ct rfl ?_ | refine aw_cf rfl ?_ | refine aw_block ?_ | with_reducible refine then_n ?_ | refine aw_skip ?_ | refine aw_exit ?_ | (with_reducible first | refine then_x ?_ | refine then_r ?_ | refine block_x ?_ | refine block_n ?_ | refine block_r ?_) | refine aw_ret ?_

/-! ### Rows -/
def rowsF (keys : Int) (c : Cur) : Nat → List Rw × Cur
  | 0 => ([], c)
  | i + 1 => ((rowsF keys c i).1 ++ [(rowD keys (rowsF keys c i).2).1], (rowD keys (rowsF keys c i).2).2)
theorem rowsF_len (keys : Int) (c : Cur) : ∀ i, (rowsF keys c i).1.length = i
  | 0 => rfl
  | i + 1 => by rw [rowsF, List.length_append, rowsF_len keys c i]; rfl
theorem rowsF_code (keys : Int) (c : Cur) : ∀ i, (rowsF keys c i).2.code = c.code
  | 0 => rfl
  | i + 1 => by rw [rowsF, rowD_code, rowsF_code keys c i]
def rowsD (most : Int) (c : Cur) : List Rw × Cur := rowsF (pkV [1, 2, 4, 10] c) (beC (IntKind.i64.wrap (most + 1)) (beC 4 c)) (beV (IntKind.i64.wrap (most + 1)) (beC 4 c)).toNat
theorem rowsD_code (most : Int) (c : Cur) : (rowsD most c).2.code = c.code := by rw [rowsD, rowsF_code, beC_code, beC_code]
theorem rowsD_len {most : Int} (h0 : 0 ≤ most) (h1 : most ≤ 1000) (c : Cur) : ((rowsD most c).1.length : Int) ≤ most := by
  have e : IntKind.i64.wrap (most + 1) = most + 1 := by rw [IntKind.wrap_i64]; omega
  rw [rowsD, rowsF_len, e]
  have := beV_range (n := most + 1) (by omega) (beC 4 c)
  omega
theorem c_rows (most : Int) (m0 : 0 ≤ most) (m1 : most ≤ 1000) (c : Cur) (hl : c.code.length ≤ 1000000000) : Meets Go.Proofs.Try.prog 129 [.ptr 0 0, I most] [curR c] (.sl 1 0 (rowsD most c).1.length) [curR (rowsD most c).2, rwR (rowsD most c).1] true := by
  have h1 : (beC 4 c).code.length ≤ 1000000000 := by rw [beC_code]; exact hl
  have e : IntKind.i64.wrap (most + 1) = most + 1 := by rw [IntKind.wrap_i64]; omega
  obtain ⟨r0, r1⟩ := beV_range (n := IntKind.i64.wrap (most + 1)) (by omega) (beC 4 c)
  obtain ⟨k, hk⟩ : ∃ k : Nat, beV (IntKind.i64.wrap (most + 1)) (beC 4 c) = k := ⟨(beV (IntKind.i64.wrap (most + 1)) (beC 4 c)).toNat, by omega⟩
  have hkl : k ≤ 1000 := by omega
  refine meets_of [4] Go.Proofs.Try.func129 rfl rfl ?_
  simp only [Go.Proofs.Try.ntmps129, List.length_cons, List.length_nil, Nat.reduceAdd, Nat.reduceSub, List.replicate_succ, List.replicate_zero, List.cons_append, List.nil_append]
  repeat' first | (refine isA ?_; refine do_R rfl (lit_of (cs := [1, 2, 4, 10].map I) rfl rfl rfl rfl rfl) rfl ?_) | refine aw_seq ?_ | refine aw_region ?_ | refine aw_lex [] ?_ | (refine isA ?_; refine do_F rfl ?_) | (refine isL ?_; refine lex_F rfl (by kernel_rfl) rfl rfl ?_) | (refine isLg rfl ?_; refine lex_S rfl (by kernel_rfl) rfl rfl ?_) | (refine isAc 131 ?_; refine do_R rfl (step_callMs (K := []) (Rs' := [_]) [0] (by decide) rfl (c_pickL [1, 2, 4, 10] c hl (by decide)) (.cons rfl rfl rfl (curR_noH _) (curR_noH _) .nil) (.cons (.ptr rfl) (.cons (.same rfl) .nil)) (fun q hq => by cases hq) rfl) rfl ?_) | (refine isLc 131 rfl ?_; refine lex_R rfl (by kernel_rfl) rfl (step_callMs (K := []) (Rs' := [_]) [0] (by decide) rfl (c_pickL [1, 2, 4, 10] c hl (by decide)) (.cons rfl rfl rfl (curR_noH _) (curR_noH _) .nil) (.cons (.ptr rfl) (.cons (.same rfl) .nil)) (fun q hq => by cases hq) rfl) rfl ?_) | (refine isAc 143 ?_; refine do_R rfl (step_callMs (K := []) (Rs' := [_]) [0] (by decide) rfl (c_lbel (IntKind.i64.wrap (most + 1)) (beC 4 c) h1) (.cons rfl rfl rfl (curR_noH _) (curR_noH _) .nil) (.cons (.ptr rfl) (.cons (.same rfl) .nil)) (fun q hq => by cases hq) rfl) rfl ?_) | (refine isLc 143 rfl ?_; refine lex_R rfl (by kernel_rfl) rfl (step_callMs (K := []) (Rs' := [_]) [0] (by decide) rfl (c_lbel (IntKind.i64.wrap (most + 1)) (beC 4 c) h1) (.cons rfl rfl rfl (curR_noH _) (curR_noH _) .nil) (.cons (.ptr rfl) (.cons (.same rfl) .nil)) (fun q hq => by cases hq) rfl) rfl ?_) | refine aops_nil ?_ | refine lex_done _ rfl (by kernel_rfl) ?_ | refine aw_ct rfl ?_ | refine aw_cf rfl ?_ | refine aw_block ?_ | with_reducible refine then_n ?_ | refine aw_skip ?_ | refine aw_exit ?_ | (with_reducible first | refine then_x ?_ | refine then_r ?_ | refine block_x ?_ | refine block_n ?_ | refine block_r ?_) | refine aw_ret ?_
  have hq : (beC (IntKind.i64.wrap (most + 1)) (beC 4 c)).code.length ≤ 1000000000 := by rw [beC_code]; exact h1
  have hD : rowsD most c = rowsF (pkV [1, 2, 4, 10] c) (beC (IntKind.i64.wrap (most + 1)) (beC 4 c)) k := by rw [rowsD, hk]; rfl
  rw [hD, hk]
  generalize hQ : pkV [1, 2, 4, 10] c = q
  generalize hE : beC (IntKind.i64.wrap (most + 1)) (beC 4 c) = d at hq
  refine aw_loop (α := { j : Nat // j ≤ k }) (fun j => ⟨[.ptr 0 0, .any, .any, .any, .any, .sl 1 0 (rowsF q d j.1).1.length, I q, I ((k : Int) - j.1), .any, .any, .any, .any, .any, .any, .any, .any, .any, .any, .any, .any, .any, .any, .any, .any, .any, .any, .any], [curR (rowsF q d j.1).2, rwR (rowsF q d j.1).1], 1⟩) (fun j => k - j.1) ⟨0, Nat.zero_le _⟩ ?_ ?_
  · refine subm 1 [0, 1] rfl rfl fix1 (by decide) (.cons rfl rfl rfl rfl (les_refl (curR_noH _)) (.cons rfl rfl rfl rfl (les_refl' rfl) .nil)) (by
      repeat' first | exact les_nil | refine les_cons ?_ ?_ | exact le_any | exact le_refl rfl | exact le_ptr rfl | exact le_sl rfl rfl | exact le_k (congrArg _ (by simp)))
  · rintro ⟨j, hj⟩
    have hcl : (rowsF q d j).2.code.length ≤ 1000000000 := by rw [rowsF_code]; exact hq
    have hol := rowsF_len q d j
    repeat' first | refine aw_seq ?_ | refine aw_region ?_ | refine aw_lex [] ?_ | (refine isA ?_; refine do_F rfl ?_) | (refine isL ?_; refine lex_F rfl (by kernel_rfl) rfl rfl ?_) | (refine isLg rfl ?_; refine lex_S rfl (by kernel_rfl) rfl rfl ?_) | refine aops_nil ?_ | refine lex_done _ rfl (by kernel_rfl) ?_ | refine aw_ct rfl ?_ | refine aw_cf rfl ?_ | refine aw_block ?_ | with_reducible refine then_n ?_ | refine aw_skip ?_ | refine aw_exit ?_ | (with_reducible first | refine then_x ?_ | refine then_r ?_ | refine block_x ?_ | refine block_n ?_ | refine block_r ?_) | refine aw_ret ?_
    refine aw_cond rfl (fun h => ?_) (fun h => ?_)
    · have hlt : j < k := by have := of_decide_eq_true h; simp only at this; omega
      repeat' first | (refine isA ?_; refine do_R rfl (lit_of rfl rfl rfl rfl rfl) rfl ?_) | refine aw_seq ?_ | refine aw_region ?_ | refine aw_lex [] ?_ | (refine isA ?_; refine do_F rfl ?_) | (refine isL ?_; refine lex_F rfl (by kernel_rfl) rfl rfl ?_) | (refine isLg rfl ?_; refine lex_S rfl (by kernel_rfl) rfl rfl ?_) | (refine isAc 159 ?_; refine do_R rfl (step_callMs (K := []) (Rs' := [_]) [0] (by decide) rfl (c_row q (rowsF q d j).2 hcl) (.cons rfl rfl rfl (curR_noH _) (curR_noH _) .nil) (.cons (.ptr rfl) (.cons (.same rfl) .nil)) (fun q hq => by cases hq) rfl) rfl ?_) | (refine isLc 159 rfl ?_; refine lex_R rfl (by kernel_rfl) rfl (step_callMs (K := []) (Rs' := [_]) [0] (by decide) rfl (c_row q (rowsF q d j).2 hcl) (.cons rfl rfl rfl (curR_noH _) (curR_noH _) .nil) (.cons (.ptr rfl) (.cons (.same rfl) .nil)) (fun q hq => by cases hq) rfl) rfl ?_) | (refine isAp ?_; refine do_R rfl (ap_l (t := rwT) (xs := (rowsF q d j).1) (ys := [(rowD q (rowsF q d j).2).1]) rfl rfl rfl rfl (.lst _ _) (by rw [hol]; simp; omega) rfl) rfl ?_) | (refine isLp rfl ?_; refine lex_R rfl (by kernel_rfl) rfl (ap_l (t := rwT) (xs := (rowsF q d j).1) (ys := [(rowD q (rowsF q d j).2).1]) rfl rfl rfl rfl (.lst _ _) (by rw [hol]; simp; omega) rfl) rfl ?_) | refine aops_nil ?_ | refine lex_done _ rfl (by kernel_rfl) ?_ | refine aw_ct rfl ?_ | refine aw_cf rfl ?_ | refine aw_block ?_ | with_reducible refine then_n ?_ | refine aw_skip ?_ | refine aw_exit ?_ | (with_reducible first | refine then_x ?_ | refine then_r ?_ | refine block_x ?_ | refine block_n ?_ | refine block_r ?_) | refine aw_ret ?_
      refine ⟨⟨j + 1, hlt⟩, by simp only; omega, ?_⟩
      exact subm 1 [0, 2] rfl rfl fix1 (by decide) (.cons rfl rfl rfl rfl (les_refl (curR_noH _)) (.cons rfl rfl rfl rfl (les_refl (flat_noH _ _)) .nil)) (by
        repeat' first | exact les_nil | refine les_cons ?_ ?_ | exact le_any | exact le_refl rfl | exact le_ptr rfl | exact le_sl rfl rfl | exact le_k (congrArg _ (show (k : Int) - ((j + 1 : Nat) : Int) = IntKind.i64.wrap ((k : Int) - (j : Int) - 1) by rw [IntKind.wrap_i64]; omega)))
    · have hge : j = k := by have := of_decide_eq_false h; simp only at this; omega
      subst hge
      repeat' first | refine aw_seq ?_ | refine aw_region ?_ | refine aw_lex [] ?_ | (refine isA ?_; refine do_F rfl ?_) | (refine isL ?_; refine lex_F rfl (by kernel_rfl) rfl rfl ?_) | (refine isLg rfl ?_; refine lex_S rfl (by kernel_rfl) rfl rfl ?_) | exact finM 1 [0, 1] fix1 (by decide) rfl (le_sl rfl rfl) (.cons rfl rfl rfl rfl (les_refl (curR_noH _)) (.cons rfl rfl rfl rfl (les_refl (flat_noH _ _)) .nil)) | refine aops_nil ?_ | refine lex_done _ rfl (by kernel_rfl) ?_ | refine aw_ct rfl ?_ | refine aw_cf rfl ?_ | refine aw_block ?_ | with_reducible refine then_n ?_ | refine aw_skip ?_ | refine aw_exit ?_ | (with_reducible first | refine then_x ?_ | refine then_r ?_ | refine block_x ?_ | refine block_n ?_ | refine block_r ?_) | refine aw_ret ?_

/-! ### A row that may be spoilt, and rows with one -/
def anyD (c : Cur) : Rw × Cur :=
  cond (decide (beV 8 (rowD 10 c).2 = 0)) (⟨pkV [-1, 10] (beC 8 (rowD 10 c).2), (rowD 10 c).1.b, (rowD 10 c).1.c⟩, beC 2 (beC 8 (rowD 10 c).2))
    (cond (decide (beV 8 (rowD 10 c).2 = 1)) (⟨(rowD 10 c).1.a, pkV [-1, 100, 99] (beC 8 (rowD 10 c).2), (rowD 10 c).1.c⟩, beC 3 (beC 8 (rowD 10 c).2))
      (cond (decide (beV 8 (rowD 10 c).2 = 2)) (⟨(rowD 10 c).1.a, (rowD 10 c).1.b, pkV [-1, 4] (beC 8 (rowD 10 c).2)⟩, beC 2 (beC 8 (rowD 10 c).2)) ((rowD 10 c).1, beC 8 (rowD 10 c).2)))
theorem anyD_code (c : Cur) : (anyD c).2.code = c.code := by
  unfold anyD
  cases decide (beV 8 (rowD 10 c).2 = 0) <;> cases decide (beV 8 (rowD 10 c).2 = 1) <;> cases decide (beV 8 (rowD 10 c).2 = 2) <;> simp [beC_code, rowD_code]
theorem c_any (c : Cur) (hl : c.code.length ≤ 1000000000) : Meets Go.Proofs.Try.prog 155 [.ptr 0 0] [curR c] (.agg (rwE (anyD c).1)) [curR (anyD c).2] true := by
  have h1 : (rowD 10 c).2.code.length ≤ 1000000000 := by rw [rowD_code]; exact hl
  have h2 : (beC 8 (rowD 10 c).2).code.length ≤ 1000000000 := by rw [beC_code]; exact h1
  refine meets_ofC 2 71 Go.Proofs.Try.func155 rfl rfl ?_
  simp only [Go.Proofs.Try.ntmps155, List.length_cons, List.length_nil, Nat.reduceAdd, Nat.reduceSub, List.replicate_succ, List.replicate_zero, List.cons_append, List.nil_append]
  repeat' first | refine aw_seq ?_ | refine aw_region ?_ | refine aw_lex [] ?_ | (refine isA ?_; refine do_F rfl ?_) | (refine isL ?_; refine lex_F rfl (by kernel_rfl) rfl rfl ?_) | (refine isLg rfl ?_; refine lex_S rfl (by kernel_rfl) rfl rfl ?_) | (refine isAc 159 ?_; refine do_R rfl (step_callMs (K := []) (Rs' := [_]) [0] (by decide) rfl (c_row 10 c hl) (.cons rfl rfl rfl (curR_noH _) (curR_noH _) .nil) (.cons (.ptr rfl) (.cons (.same rfl) .nil)) (fun q hq => by cases hq) rfl) rfl ?_) | (refine isLc 159 rfl ?_; refine lex_R rfl (by kernel_rfl) rfl (step_callMs (K := []) (Rs' := [_]) [0] (by decide) rfl (c_row 10 c hl) (.cons rfl rfl rfl (curR_noH _) (curR_noH _) .nil) (.cons (.ptr rfl) (.cons (.same rfl) .nil)) (fun q hq => by cases hq) rfl) rfl ?_) | (refine isAc 143 ?_; refine do_R rfl (step_callMs (K := []) (Rs' := [_]) [0] (by decide) rfl (c_lbel 8 (rowD 10 c).2 h1) (.cons rfl rfl rfl (curR_noH _) (curR_noH _) .nil) (.cons (.ptr rfl) (.cons (.same rfl) .nil)) (fun q hq => by cases hq) rfl) rfl ?_) | (refine isLc 143 rfl ?_; refine lex_R rfl (by kernel_rfl) rfl (step_callMs (K := []) (Rs' := [_]) [0] (by decide) rfl (c_lbel 8 (rowD 10 c).2 h1) (.cons rfl rfl rfl (curR_noH _) (curR_noH _) .nil) (.cons (.ptr rfl) (.cons (.same rfl) .nil)) (fun q hq => by cases hq) rfl) rfl ?_) | refine aops_nil ?_ | refine lex_done _ rfl (by kernel_rfl) ?_ | refine aw_ct rfl ?_ | refine aw_cf rfl ?_ | refine aw_block ?_ | with_reducible refine then_n ?_ | refine aw_skip ?_ | refine aw_exit ?_ | (with_reducible first | refine then_x ?_ | refine then_r ?_ | refine block_x ?_ | refine block_n ?_ | refine block_r ?_) | refine aw_ret ?_
  refine aw_cond rfl (fun b0 => ?_) (fun b0 => ?_)
  · skip
    have D : anyD c = (⟨pkV [-1, 10] (beC 8 (rowD 10 c).2), (rowD 10 c).1.b, (rowD 10 c).1.c⟩, beC 2 (beC 8 (rowD 10 c).2)) := by rw [anyD, b0]; rfl
    repeat' first | (refine isA ?_; refine do_R rfl (lit_of rfl rfl rfl rfl rfl) rfl ?_) | refine aw_seq ?_ | refine aw_region ?_ | refine aw_lex [] ?_ | (refine isA ?_; refine do_F rfl ?_) | (refine isL ?_; refine lex_F rfl (by kernel_rfl) rfl rfl ?_) | (refine isLg rfl ?_; refine lex_S rfl (by kernel_rfl) rfl rfl ?_) | (refine isAc 131 ?_; refine do_R rfl (step_callMs (K := []) (Rs' := [_]) [0] (by decide) rfl (c_pickL [-1, 10] (beC 8 (rowD 10 c).2) h2 (Nat.zero_lt_succ _)) (.cons rfl rfl rfl (curR_noH _) (curR_noH _) .nil) (.cons (.ptr rfl) (.cons (.same rfl) .nil)) (fun q hq => by cases hq) rfl) rfl ?_) | (refine isLc 131 rfl ?_; refine lex_R rfl (by kernel_rfl) rfl (step_callMs (K := []) (Rs' := [_]) [0] (by decide) rfl (c_pickL [-1, 10] (beC 8 (rowD 10 c).2) h2 (Nat.zero_lt_succ _)) (.cons rfl rfl rfl (curR_noH _) (curR_noH _) .nil) (.cons (.ptr rfl) (.cons (.same rfl) .nil)) (fun q hq => by cases hq) rfl) rfl ?_) | exact (by rw [D]; exact finMC1 (cell_is rfl rfl rfl rfl rfl) (le_refl rfl) (.cons rfl rfl rfl rfl (les_refl (curR_noH _)) .nil)) | refine aops_nil ?_ | refine lex_done _ rfl (by kernel_rfl) ?_ | refine aw_ct rfl ?_ | refine aw_cf rfl ?_ | refine aw_block ?_ | with_reducible refine then_n ?_ | refine aw_skip ?_ | refine aw_exit ?_ | (with_reducible first | refine then_x ?_ | refine then_r ?_ | refine block_x ?_ | refine block_n ?_ | refine block_r ?_) | refine aw_ret ?_
  · repeat' first | refine aw_seq ?_ | refine aw_region ?_ | refine aw_lex [] ?_ | (refine isA ?_; refine do_F rfl ?_) | (refine isL ?_; refine lex_F rfl (by kernel_rfl) rfl rfl ?_) | (refine isLg rfl ?_; refine lex_S rfl (by kernel_rfl) rfl rfl ?_) | refine aops_nil ?_ | refine lex_done _ rfl (by kernel_rfl) ?_ | refine aw_ct rfl ?_ | refine aw_cf rfl ?_ | refine aw_block ?_ | with_reducible refine then_n ?_ | refine aw_skip ?_ | refine aw_exit ?_ | (with_reducible first | refine then_x ?_ | refine then_r ?_ | refine block_x ?_ | refine block_n ?_ | refine block_r ?_) | refine aw_ret ?_
    refine aw_cond rfl (fun b1 => ?_) (fun b1 => ?_)
    · skip
      have D : anyD c = (⟨(rowD 10 c).1.a, pkV [-1, 100, 99] (beC 8 (rowD 10 c).2), (rowD 10 c).1.c⟩, beC 3 (beC 8 (rowD 10 c).2)) := by rw [anyD, b0, b1]; rfl
      repeat' first | (refine isA ?_; refine do_R rfl (lit_of rfl rfl rfl rfl rfl) rfl ?_) | refine aw_seq ?_ | refine aw_region ?_ | refine aw_lex [] ?_ | (refine isA ?_; refine do_F rfl ?_) | (refine isL ?_; refine lex_F rfl (by kernel_rfl) rfl rfl ?_) | (refine isLg rfl ?_; refine lex_S rfl (by kernel_rfl) rfl rfl ?_) | (refine isAc 131 ?_; refine do_R rfl (step_callMs (K := []) (Rs' := [_]) [0] (by decide) rfl (c_pickL [-1, 100, 99] (beC 8 (rowD 10 c).2) h2 (Nat.zero_lt_succ _)) (.cons rfl rfl rfl (curR_noH _) (curR_noH _) .nil) (.cons (.ptr rfl) (.cons (.same rfl) .nil)) (fun q hq => by cases hq) rfl) rfl ?_) | (refine isLc 131 rfl ?_; refine lex_R rfl (by kernel_rfl) rfl (step_callMs (K := []) (Rs' := [_]) [0] (by decide) rfl (c_pickL [-1, 100, 99] (beC 8 (rowD 10 c).2) h2 (Nat.zero_lt_succ _)) (.cons rfl rfl rfl (curR_noH _) (curR_noH _) .nil) (.cons (.ptr rfl) (.cons (.same rfl) .nil)) (fun q hq => by cases hq) rfl) rfl ?_) | exact (by rw [D]; exact finMC1 (cell_is rfl rfl rfl rfl rfl) (le_refl rfl) (.cons rfl rfl rfl rfl (les_refl (curR_noH _)) .nil)) | refine aops_nil ?_ | refine lex_done _ rfl (by kernel_rfl) ?_ | refine aw_ct rfl ?_ | refine aw_cf rfl ?_ | refine aw_block ?_ | with_reducible refine then_n ?_ | refine aw_skip ?_ | refine aw_exit ?_ | (with_reducible first | refine then_x ?_ | refine then_r ?_ | refine block_x ?_ | refine block_n ?_ | refine block_r ?_) | refine aw_ret ?_
    · repeat' first | refine aw_seq ?_ | refine aw_region ?_ | refine aw_lex [] ?_ | (refine isA ?_; refine do_F rfl ?_) | (refine isL ?_; refine lex_F rfl (by kernel_rfl) rfl rfl ?_) | (refine isLg rfl ?_; refine lex_S rfl (by kernel_rfl) rfl rfl ?_) | refine aops_nil ?_ | refine lex_done _ rfl (by kernel_rfl) ?_ | refine aw_ct rfl ?_ | refine aw_cf rfl ?_ | refine aw_block ?_ | with_reducible refine then_n ?_ | refine aw_skip ?_ | refine aw_exit ?_ | (with_reducible first | refine then_x ?_ | refine then_r ?_ | refine block_x ?_ | refine block_n ?_ | refine block_r ?_) | refine aw_ret ?_
      refine aw_cond rfl (fun b2 => ?_) (fun b2 => ?_)
      · skip
        have D : anyD c = (⟨(rowD 10 c).1.a, (rowD 10 c).1.b, pkV [-1, 4] (beC 8 (rowD 10 c).2)⟩, beC 2 (beC 8 (rowD 10 c).2)) := by rw [anyD, b0, b1, b2]; rfl
        repeat' first | (refine isA ?_; refine do_R rfl (lit_of rfl rfl rfl rfl rfl) rfl ?_) | refine aw_seq ?_ | refine aw_region ?_ | refine aw_lex [] ?_ | (refine isA ?_; refine do_F rfl ?_) | (refine isL ?_; refine lex_F rfl (by kernel_rfl) rfl rfl ?_) | (refine isLg rfl ?_; refine lex_S rfl (by kernel_rfl) rfl rfl ?_) | (refine isAc 131 ?_; refine do_R rfl (step_callMs (K := []) (Rs' := [_]) [0] (by decide) rfl (c_pickL [-1, 4] (beC 8 (rowD 10 c).2) h2 (Nat.zero_lt_succ _)) (.cons rfl rfl rfl (curR_noH _) (curR_noH _) .nil) (.cons (.ptr rfl) (.cons (.same rfl) .nil)) (fun q hq => by cases hq) rfl) rfl ?_) | (refine isLc 131 rfl ?_; refine lex_R rfl (by kernel_rfl) rfl (step_callMs (K := []) (Rs' := [_]) [0] (by decide) rfl (c_pickL [-1, 4] (beC 8 (rowD 10 c).2) h2 (Nat.zero_lt_succ _)) (.cons rfl rfl rfl (curR_noH _) (curR_noH _) .nil) (.cons (.ptr rfl) (.cons (.same rfl) .nil)) (fun q hq => by cases hq) rfl) rfl ?_) | exact (by rw [D]; exact finMC1 (cell_is rfl rfl rfl rfl rfl) (le_refl rfl) (.cons rfl rfl rfl rfl (les_refl (curR_noH _)) .nil)) | refine aops_nil ?_ | refine lex_done _ rfl (by kernel_rfl) ?_ | refine aw_ct rfl ?_ | refine aw_cf rfl ?_ | refine aw_block ?_ | with_reducible refine then_n ?_ | refine aw_skip ?_ | refine aw_exit ?_ | (with_reducible first | refine then_x ?_ | refine then_r ?_ | refine block_x ?_ | refine block_n ?_ | refine block_r ?_) | refine aw_ret ?_
      · skip
        have D : anyD c = ((rowD 10 c).1, beC 8 (rowD 10 c).2) := by rw [anyD, b0, b1, b2]; rfl
        repeat' first | refine aw_seq ?_ | refine aw_region ?_ | refine aw_lex [] ?_ | (refine isA ?_; refine do_F rfl ?_) | (refine isL ?_; refine lex_F rfl (by kernel_rfl) rfl rfl ?_) | (refine isLg rfl ?_; refine lex_S rfl (by kernel_rfl) rfl rfl ?_) | exact (by rw [D]; exact finMC1 (cell_is rfl rfl rfl rfl rfl) (le_refl rfl) (.cons rfl rfl rfl rfl (les_refl (curR_noH _)) .nil)) | refine aops_nil ?_ | refine lex_done _ rfl (by kernel_rfl) ?_ | refine aw_ct rfl ?_ | refine aw_cf rfl ?_ | refine aw_block ?_ | with_reducible refine then_n ?_ | refine aw_skip ?_ | refine aw_exit ?_ | (with_reducible first | refine then_x ?_ | refine then_r ?_ | refine block_x ?_ | refine block_n ?_ | refine block_r ?_) | refine aw_ret ?_

def bentD (most : Int) (c : Cur) : List Rw × Cur :=
  cond (decide (beV 14 (rowsD most c).2 = 0)) ((rowsD most c).1 ++ [(anyD (beC 14 (rowsD most c).2)).1], (anyD (beC 14 (rowsD most c).2)).2) ((rowsD most c).1, beC 14 (rowsD most c).2)
theorem bentD_code (most : Int) (c : Cur) : (bentD most c).2.code = c.code := by
  unfold bentD
  cases decide (beV 14 (rowsD most c).2 = 0) <;> simp [beC_code, rowsD_code, anyD_code]
theorem bentD_len {most : Int} (h0 : 0 ≤ most) (h1 : most ≤ 1000) (c : Cur) : ((bentD most c).1.length : Int) ≤ most + 1 := by
  have := rowsD_len h0 h1 c
  unfold bentD
  cases decide (beV 14 (rowsD most c).2 = 0) <;> simp <;> omega
theorem c_bent (most : Int) (m0 : 0 ≤ most) (m1 : most ≤ 1000) (c : Cur) (hl : c.code.length ≤ 1000000000) : Meets Go.Proofs.Try.prog 105 [.ptr 0 0, I most] [curR c] (.sl 1 0 (bentD most c).1.length) [curR (bentD most c).2, rwR (bentD most c).1] true := by
  have h1 : (rowsD most c).2.code.length ≤ 1000000000 := by rw [rowsD_code]; exact hl
  have h2 : (beC 14 (rowsD most c).2).code.length ≤ 1000000000 := by rw [beC_code]; exact h1
  have hrl := rowsD_len m0 m1 c
  refine meets_of [4] Go.Proofs.Try.func105 rfl rfl ?_
  simp only [Go.Proofs.Try.ntmps105, List.length_cons, List.length_nil, Nat.reduceAdd, Nat.reduceSub, List.replicate_succ, List.replicate_zero, List.cons_append, List.nil_append]
  repeat' first | refine aw_seq ?_ | refine aw_region ?_ | refine aw_lex [] ?_ | (refine isA ?_; refine do_F rfl ?_) | (refine isL ?_; refine lex_F rfl (by kernel_rfl) rfl rfl ?_) | (refine isLg rfl ?_; refine lex_S rfl (by kernel_rfl) rfl rfl ?_) | (refine isAc 129 ?_; refine do_R rfl (st_drawL (args := [_]) 1 0 (c_rows most m0 m1 c hl) rfl rfl rfl rfl (flat_noH _ _) rfl rfl rfl) rfl ?_) | (refine isLc 129 rfl ?_; refine lex_R rfl (by kernel_rfl) rfl (st_drawL (args := [_]) 1 0 (c_rows most m0 m1 c hl) rfl rfl rfl rfl (flat_noH _ _) rfl rfl rfl) rfl ?_) | (refine isAc 128 ?_; refine do_R rfl (step_callMs (K := []) (Rs' := [_]) [0] (by decide) rfl (c_once 14 (rowsD most c).2 h1) (.cons rfl rfl rfl (curR_noH _) (curR_noH _) .nil) (.cons (.ptr rfl) (.cons (.same rfl) .nil)) (fun q hq => by cases hq) rfl) rfl ?_) | (refine isLc 128 rfl ?_; refine lex_R rfl (by kernel_rfl) rfl (step_callMs (K := []) (Rs' := [_]) [0] (by decide) rfl (c_once 14 (rowsD most c).2 h1) (.cons rfl rfl rfl (curR_noH _) (curR_noH _) .nil) (.cons (.ptr rfl) (.cons (.same rfl) .nil)) (fun q hq => by cases hq) rfl) rfl ?_) | refine aops_nil ?_ | refine lex_done _ rfl (by kernel_rfl) ?_ | refine aw_ct rfl ?_ | refine aw_cf rfl ?_ | refine aw_block ?_ | with_reducible refine then_n ?_ | refine aw_skip ?_ | refine aw_exit ?_ | (with_reducible first | refine then_x ?_ | refine then_r ?_ | refine block_x ?_ | refine block_n ?_ | refine block_r ?_) | refine aw_ret ?_
  refine aw_cond rfl (fun b0 => ?_) (fun b0 => ?_)
  · skip
    have D : bentD most c = ((rowsD most c).1 ++ [(anyD (beC 14 (rowsD most c).2)).1], (anyD (beC 14 (rowsD most c).2)).2) := by rw [bentD, b0]; rfl
    repeat' first | (refine isA ?_; refine do_R rfl (lit_of rfl rfl rfl rfl rfl) rfl ?_) | refine aw_seq ?_ | refine aw_region ?_ | refine aw_lex [] ?_ | (refine isA ?_; refine do_F rfl ?_) | (refine isL ?_; refine lex_F rfl (by kernel_rfl) rfl rfl ?_) | (refine isLg rfl ?_; refine lex_S rfl (by kernel_rfl) rfl rfl ?_) | (refine isAc 155 ?_; refine do_R rfl (step_callMs (K := []) (Rs' := [_]) [0] (by decide) rfl (c_any (beC 14 (rowsD most c).2) h2) (.cons rfl rfl rfl (curR_noH _) (curR_noH _) .nil) (.cons (.ptr rfl) .nil) (fun q hq => by cases hq) rfl) rfl ?_) | (refine isLc 155 rfl ?_; refine lex_R rfl (by kernel_rfl) rfl (step_callMs (K := []) (Rs' := [_]) [0] (by decide) rfl (c_any (beC 14 (rowsD most c).2) h2) (.cons rfl rfl rfl (curR_noH _) (curR_noH _) .nil) (.cons (.ptr rfl) .nil) (fun q hq => by cases hq) rfl) rfl ?_) | (refine isAp ?_; refine do_R rfl (ap_l (t := rwT) (xs := (rowsD most c).1) (ys := [(anyD (beC 14 (rowsD most c).2)).1]) rfl rfl rfl rfl (.lst _ _) (by simp; omega) rfl) rfl ?_) | (refine isLp rfl ?_; refine lex_R rfl (by kernel_rfl) rfl (ap_l (t := rwT) (xs := (rowsD most c).1) (ys := [(anyD (beC 14 (rowsD most c).2)).1]) rfl rfl rfl rfl (.lst _ _) (by simp; omega) rfl) rfl ?_) | exact (by rw [D]; exact finM 1 [0, 2] fix1 (by decide) rfl (le_sl rfl rfl) (.cons rfl rfl rfl rfl (les_refl (curR_noH _)) (.cons rfl rfl rfl rfl (les_refl (flat_noH _ _)) .nil))) | refine aops_nil ?_ | refine lex_done _ rfl (by kernel_rfl) ?_ | refine aw_ct rfl ?_ | refine aw_cf rfl ?_ | refine aw_block ?_ | with_reducible refine then_n ?_ | refine aw_skip ?_ | refine aw_exit ?_ | (with_reducible first | refine then_x ?_ | refine then_r ?_ | refine block_x ?_ | refine block_n ?_ | refine block_r ?_) | refine aw_ret ?_
  · skip
    have D : bentD most c = ((rowsD most c).1, beC 14 (rowsD most c).2) := by rw [bentD, b0]; rfl
    repeat' first | refine aw_seq ?_ | refine aw_region ?_ | refine aw_lex [] ?_ | (refine isA ?_; refine do_F rfl ?_) | (refine isL ?_; refine lex_F rfl (by kernel_rfl) rfl rfl ?_) | (refine isLg rfl ?_; refine lex_S rfl (by kernel_rfl) rfl rfl ?_) | exact (by rw [D]; exact finM 1 [0, 1] fix1 (by decide) rfl (le_sl rfl rfl) (.cons rfl rfl rfl rfl (les_refl (curR_noH _)) (.cons rfl rfl rfl rfl (les_refl (flat_noH _ _)) .nil))) | refine aops_nil ?_ | refine lex_done _ rfl (by kernel_rfl) ?_ | refine aw_ct rfl ?_ | refine aw_cf rfl ?_ | refine aw_block ?_ | with_reducible refine then_n ?_ | refine aw_skip ?_ | refine aw_exit ?_ | (with_reducible first | refine then_x ?_ | refine then_r ?_ | refine block_x ?_ | refine block_n ?_ | refine block_r ?_) | refine aw_ret ?_
end Go.Proofs.Ytkcicbigpbdjpaa.Ab

/- DrwQ -/
namespace Go.Proofs.Ytkcicbigpbdjpaa.Ab
open Go.RowKit

theorem frz1 {P : Program} {f : FuncId} {cargs : List V} {c c' : Cur} {R : Reg} {r r' : V} {al : Bool} (h : Meets P f cargs [curR c] r [curR c', R] al) (hp : Pur true [deadR (curR c'), R] r r') : Meets P f cargs [curR c] r' [curR c'] true :=
  Meets.frozenK (Rs := [curR c]) (Rs' := [curR c']) (K := [R]) h rfl (fun q hq => by simp at hq; subst hq; exact curR_noH _) (fun i q q' h1 h2 h3 => by
    cases i with
    | zero => simp at h2; subst h2; rfl
    | succ i => simp at h2) hp
theorem c_rowsZ (most : Int) (m0 : 0 ≤ most) (m1 : most ≤ 1000) (c : Cur) (hl : c.code.length ≤ 1000000000) : Meets Go.Proofs.Try.prog 129 [.ptr 0 0, I most] [curR c] (rwL (rowsD most c).1) [curR (rowsD most c).2] true :=
  frz1 (c_rows most m0 m1 c hl) (pur_row rfl)
theorem c_bentZ (most : Int) (m0 : 0 ≤ most) (m1 : most ≤ 1000) (c : Cur) (hl : c.code.length ≤ 1000000000) : Meets Go.Proofs.Try.prog 105 [.ptr 0 0, I most] [curR c] (rwL (bentD most c).1) [curR (bentD most c).2] true :=
  frz1 (c_bent most m0 m1 c hl) (pur_row rfl)

/-! ### Runs -/
abbrev rnR (rs : List Rn) : Reg := regOf rnT 39 rs
def turnR (p : List Rn × Cur) : List Rn × Cur :=
  cond (decide (0 < ((srtV (rowsD 4 p.2).1).length : Int))) (p.1 ++ [srtV (rowsD 4 p.2).1], (rowsD 4 p.2).2)
    (cond (decide (beV 20 (rowsD 4 p.2).2 = 0)) (p.1 ++ [srtV (rowsD 4 p.2).1], beC 20 (rowsD 4 p.2).2) (p.1, beC 20 (rowsD 4 p.2).2))
def turnsR (p : List Rn × Cur) : Nat → List Rn × Cur
  | 0 => p
  | i + 1 => turnR (turnsR p i)
def lastR (p : List Rn × Cur) : List Rn × Cur :=
  cond (decide (0 < (p.1.length : Int))) (cond (decide (beV 12 p.2 = 0)) (p.1.set 0 (rowsD 4 (beC 12 p.2)).1, (rowsD 4 (beC 12 p.2)).2) (p.1, beC 12 p.2)) p
def runsD (c : Cur) : List Rn × Cur := lastR (turnsR ([], beC 5 c) (beV 5 c).toNat)
theorem turnR_code (p : List Rn × Cur) : (turnR p).2.code = p.2.code := by
  unfold turnR
  cases decide (0 < ((srtV (rowsD 4 p.2).1).length : Int)) <;> cases decide (beV 20 (rowsD 4 p.2).2 = 0) <;> simp [beC_code, rowsD_code]
theorem turnsR_code (p : List Rn × Cur) : ∀ i, (turnsR p i).2.code = p.2.code
  | 0 => rfl
  | i + 1 => by rw [turnsR, turnR_code, turnsR_code p i]
structure Small (k : Nat) (rs : List Rn) : Prop where
  len : rs.length ≤ k
  row : ∀ x ∈ rs, x.length ≤ 4
theorem rows4 (c : Cur) : (rowsD 4 c).1.length ≤ 4 := by
  have := rowsD_len (most := 4) (by decide) (by decide) c
  omega
theorem Small.push {k : Nat} {rs : List Rn} {x : Rn} (h : Small k rs) (hx : x.length ≤ 4) : Small (k + 1) (rs ++ [x]) := ⟨by have := h.len; simp; omega, fun y hy => by
  rcases List.mem_append.1 hy with hy | hy
  · exact h.row y hy
  · simp at hy; subst hy; exact hx⟩
theorem Small.more {k : Nat} {rs : List Rn} (h : Small k rs) : Small (k + 1) rs := ⟨by have := h.len; omega, h.row⟩
theorem turnR_small {k : Nat} {p : List Rn × Cur} (h : Small k p.1) : Small (k + 1) (turnR p).1 := by
  have hs : (srtV (rowsD 4 p.2).1).length ≤ 4 := by rw [srtV_len]; exact rows4 _
  unfold turnR
  cases decide (0 < ((srtV (rowsD 4 p.2).1).length : Int)) <;> cases decide (beV 20 (rowsD 4 p.2).2 = 0)
  · exact h.more
  · exact h.push hs
  · exact h.push hs
  · exact h.push hs
theorem turnsR_small (c : Cur) : ∀ i, Small i (turnsR ([], c) i).1
  | 0 => ⟨Nat.le_refl _, fun x hx => by cases hx⟩
  | i + 1 => turnR_small (turnsR_small c i)
theorem lastR_small {k : Nat} {p : List Rn × Cur} (h : Small k p.1) : Small k (lastR p).1 := by
  unfold lastR
  cases decide (0 < (p.1.length : Int))
  · exact h
  · cases decide (beV 12 p.2 = 0)
    · exact h
    · refine ⟨by simp only [cond_true, List.length_set]; exact h.len, fun x hx => ?_⟩
      rcases List.mem_or_eq_of_mem_set hx with hx | rfl
      · exact h.row x hx
      · exact rows4 _
theorem runsD_small (c : Cur) : Small 4 (runsD c).1 := by
  have := beV_range (n := 5) (by omega) c
  have h := turnsR_small (beC 5 c) (beV 5 c).toNat
  exact lastR_small ⟨by have := h.len; omega, h.row⟩
theorem Small.tot {k : Nat} : ∀ {rs : List Rn}, Small k rs → Ab.tot rs ≤ 4 * rs.length
  | [], _ => Nat.le_refl _
  | x :: xs, h => by
    have h1 := h.row x (List.mem_cons_self ..)
    have h2 := Small.tot (k := k) (rs := xs) ⟨by have := h.len; simp at this; omega, fun y hy => h.row y (List.mem_cons_of_mem _ hy)⟩
    simp only [Ab.tot, List.map_cons, List.sum_cons, List.length_cons] at h2 ⊢
    omega

theorem c_runs11 (c : Cur) (hl : c.code.length ≤ 1000000000) : Meets Go.Proofs.Try.prog 118 [.ptr 0 0] [curR c] (.sl 1 0 (runsD c).1.length) [curR (runsD c).2, rnR (runsD c).1] true := by
  have h1 : (beC 5 c).code.length ≤ 1000000000 := by rw [beC_code]; exact hl
  obtain ⟨r0, r1⟩ := beV_range (n := 5) (by omega) c
  obtain ⟨k, hk⟩ : ∃ k : Nat, beV 5 c = k := ⟨(beV 5 c).toNat, by omega⟩
  refine meets_of [2] Go.Proofs.Try.func118 rfl rfl ?_
  simp only [Go.Proofs.Try.ntmps118, List.length_cons, List.length_nil, Nat.reduceAdd, Nat.reduceSub, List.replicate_succ, List.replicate_zero, List.cons_append, List.nil_append]
  repeat' first | refine aw_seq ?_ | refine aw_region ?_ | refine aw_lex [] ?_ | (refine isA ?_; refine do_F rfl ?_) | (refine isL ?_; refine lex_F rfl (by kernel_rfl) rfl rfl ?_) | (refine isLg rfl ?_; refine lex_S rfl (by kernel_rfl) rfl rfl ?_) | (refine isAc 143 ?_; refine do_R rfl (step_callMs (K := []) (Rs' := [_]) [0] (by decide) rfl (c_lbel 5 c hl) (.cons rfl rfl rfl (curR_noH _) (curR_noH _) .nil) (.cons (.ptr rfl) (.cons (.same rfl) .nil)) (fun q hq => by cases hq) rfl) rfl ?_) | (refine isLc 143 rfl ?_; refine lex_R rfl (by kernel_rfl) rfl (step_callMs (K := []) (Rs' := [_]) [0] (by decide) rfl (c_lbel 5 c hl) (.cons rfl rfl rfl (curR_noH _) (curR_noH _) .nil) (.cons (.ptr rfl) (.cons (.same rfl) .nil)) (fun q hq => by cases hq) rfl) rfl ?_) | refine aops_nil ?_ | refine lex_done _ rfl (by kernel_rfl) ?_ | refine aw_ct rfl ?_ | refine aw_cf rfl ?_ | refine aw_block ?_ | with_reducible refine then_n ?_ | refine aw_skip ?_ | refine aw_exit ?_ | (with_reducible first | refine then_x ?_ | refine then_r ?_ | refine block_x ?_ | refine block_n ?_ | refine block_r ?_) | refine aw_ret ?_
  have hD : runsD c = lastR (turnsR ([], beC 5 c) k) := by rw [runsD, hk]; rfl
  rw [hD, hk]
  have hS := turnsR_small (beC 5 c)
  generalize hp : (([], beC 5 c) : List Rn × Cur) = p at hS
  have hpc : p.2.code.length ≤ 1000000000 := by rw [← hp]; exact h1
  refine aw_loop (α := { j : Nat // j ≤ k }) (fun j => ⟨[.ptr 0 0, .any, .any, .sl 1 0 (turnsR p j.1).1.length, I ((k : Int) - j.1), .any, .any, .any, .any, .any, .any, .any, .any, .any, .any, .any, .any, .any, .any, .any, .any, .any, .any, .any, .any, .any, .any, .any, .any, .any, .any, .any, .any, .any, .any, .any, .any, .any, .any, .any, .any], [curR (turnsR p j.1).2, rnR (turnsR p j.1).1], 1⟩) (fun j => k - j.1) ⟨0, Nat.zero_le _⟩ ?_ ?_
  · subst hp
    refine subm 1 [0, 1] rfl rfl fix1 (by decide) (.cons rfl rfl rfl rfl (les_refl (curR_noH _)) (.cons rfl rfl rfl rfl (les_refl' rfl) .nil)) (by
      repeat' first | exact les_nil | refine les_cons ?_ ?_ | exact le_any | exact le_refl rfl | exact le_ptr rfl | exact le_sl rfl rfl | exact le_k (congrArg _ (by simp)))
  · rintro ⟨j, hj⟩
    have hcl : (turnsR p j).2.code.length ≤ 1000000000 := by rw [turnsR_code]; exact hpc
    have hjs := hS j
    have hjl := hjs.len
    repeat' first | refine aw_seq ?_ | refine aw_region ?_ | refine aw_lex [] ?_ | (refine isA ?_; refine do_F rfl ?_) | (refine isL ?_; refine lex_F rfl (by kernel_rfl) rfl rfl ?_) | (refine isLg rfl ?_; refine lex_S rfl (by kernel_rfl) rfl rfl ?_) | refine aops_nil ?_ | refine lex_done _ rfl (by kernel_rfl) ?_ | refine aw_ct rfl ?_ | refine aw_cf rfl ?_ | refine aw_block ?_ | with_reducible refine then_n ?_ | refine aw_skip ?_ | refine aw_exit ?_ | (with_reducible first | refine then_x ?_ | refine then_r ?_ | refine block_x ?_ | refine block_n ?_ | refine block_r ?_) | refine aw_ret ?_
    refine aw_cond rfl (fun h => ?_) (fun h => ?_)
    · have hlt : j < k := by have := of_decide_eq_true h; simp only at this; omega
      have hE : turnsR p (j + 1) = turnR (turnsR p j) := rfl
      generalize turnsR p j = q at hcl hjs hjl hE
      have hq4 := rows4 q.2
      have s1 := (c_ssort (rowsD 4 q.2).1 (by omega)).frozen (pur_row rfl)
      have hsl : (srtV (rowsD 4 q.2).1).length ≤ 4 := by rw [srtV_len]; exact hq4
      have hc2 : (rowsD 4 q.2).2.code.length ≤ 1000000000 := by rw [rowsD_code]; exact hcl
      have hT : turnR q = cond (decide (0 < ((srtV (rowsD 4 q.2).1).length : Int))) (q.1 ++ [srtV (rowsD 4 q.2).1], (rowsD 4 q.2).2) (cond (decide (beV 20 (rowsD 4 q.2).2 = 0)) (q.1 ++ [srtV (rowsD 4 q.2).1], beC 20 (rowsD 4 q.2).2) (q.1, beC 20 (rowsD 4 q.2).2)) := rfl
      generalize srtV (rowsD 4 q.2).1 = sr at s1 hsl hT
      repeat' first | refine aw_seq ?_ | refine aw_region ?_ | refine aw_lex [] ?_ | (refine isA ?_; refine do_F rfl ?_) | (refine isL ?_; refine lex_F rfl (by kernel_rfl) rfl rfl ?_) | (refine isLg rfl ?_; refine lex_S rfl (by kernel_rfl) rfl rfl ?_) | (refine isAc 129 ?_; refine do_R rfl (step_callMs (K := []) (Rs' := [_]) [0] (by decide) rfl (c_rowsZ 4 (by decide) (by decide) q.2 hcl) (.cons rfl rfl rfl (curR_noH _) (curR_noH _) .nil) (.cons (.ptr rfl) (.cons (.same rfl) .nil)) (fun q hq => by cases hq) rfl) rfl ?_) | (refine isLc 129 rfl ?_; refine lex_R rfl (by kernel_rfl) rfl (step_callMs (K := []) (Rs' := [_]) [0] (by decide) rfl (c_rowsZ 4 (by decide) (by decide) q.2 hcl) (.cons rfl rfl rfl (curR_noH _) (curR_noH _) .nil) (.cons (.ptr rfl) (.cons (.same rfl) .nil)) (fun q hq => by cases hq) rfl) rfl ?_) | (refine isAc 60 ?_; refine do_R rfl (st_call rfl s1 (.cons (.same rfl) .nil) rfl) rfl ?_) | (refine isLc 60 rfl ?_; refine lex_R rfl (by kernel_rfl) rfl (st_call rfl s1 (.cons (.same rfl) .nil) rfl) rfl ?_) | refine aops_nil ?_ | refine lex_done _ rfl (by kernel_rfl) ?_ | refine aw_ct rfl ?_ | refine aw_cf rfl ?_ | refine aw_block ?_ | with_reducible refine then_n ?_ | refine aw_skip ?_ | refine aw_exit ?_ | (with_reducible first | refine then_x ?_ | refine then_r ?_ | refine block_x ?_ | refine block_n ?_ | refine block_r ?_) | refine aw_ret ?_
      refine do_br rfl rfl (fun p1 => ?_) (fun p1 => ?_)
      · have E : turnsR p (j + 1) = (q.1 ++ [sr], (rowsD 4 q.2).2) := by rw [hE, hT, p1]; rfl
        repeat' first | (refine isA ?_; refine do_R rfl (lit_of rfl rfl rfl rfl rfl) rfl ?_) | refine aw_seq ?_ | refine aw_region ?_ | refine aw_lex [] ?_ | (refine isA ?_; refine do_F rfl ?_) | (refine isL ?_; refine lex_F rfl (by kernel_rfl) rfl rfl ?_) | (refine isLg rfl ?_; refine lex_S rfl (by kernel_rfl) rfl rfl ?_) | (refine isAp ?_; refine do_R rfl (ap_l (t := rnT) (xs := q.1) (ys := [sr]) rfl rfl rfl rfl (.lst _ _) (by simp; omega) rfl) rfl ?_) | (refine isLp rfl ?_; refine lex_R rfl (by kernel_rfl) rfl (ap_l (t := rnT) (xs := q.1) (ys := [sr]) rfl rfl rfl rfl (.lst _ _) (by simp; omega) rfl) rfl ?_) | refine aops_nil ?_ | refine lex_done _ rfl (by kernel_rfl) ?_ | refine aw_ct rfl ?_ | refine aw_cf rfl ?_ | refine aw_block ?_ | with_reducible refine then_n ?_ | refine aw_skip ?_ | refine aw_exit ?_ | (with_reducible first | refine then_x ?_ | refine then_r ?_ | refine block_x ?_ | refine block_n ?_ | refine block_r ?_) | refine aw_ret ?_
        refine ⟨⟨j + 1, hlt⟩, by simp only; omega, ?_⟩
        simp only [E]
        exact subm 1 [0, 2] rfl rfl fix1 (by decide) (.cons rfl rfl rfl rfl (les_refl (curR_noH _)) (.cons rfl rfl rfl rfl (les_refl (flat_noH _ _)) .nil)) (by
          repeat' first | exact les_nil | refine les_cons ?_ ?_ | exact le_any | exact le_refl rfl | exact le_ptr rfl | exact le_sl rfl rfl | exact le_k (congrArg _ (show (k : Int) - ((j + 1 : Nat) : Int) = IntKind.i64.wrap ((k : Int) - (j : Int) - 1) by rw [IntKind.wrap_i64]; omega)))
      · repeat' first | refine aw_seq ?_ | refine aw_region ?_ | refine aw_lex [] ?_ | (refine isA ?_; refine do_F rfl ?_) | (refine isL ?_; refine lex_F rfl (by kernel_rfl) rfl rfl ?_) | (refine isLg rfl ?_; refine lex_S rfl (by kernel_rfl) rfl rfl ?_) | (refine isAc 128 ?_; refine do_R rfl (step_callMs (K := []) (Rs' := [_]) [0] (by decide) rfl (c_once 20 (rowsD 4 q.2).2 hc2) (.cons rfl rfl rfl (curR_noH _) (curR_noH _) .nil) (.cons (.ptr rfl) (.cons (.same rfl) .nil)) (fun q hq => by cases hq) rfl) rfl ?_) | (refine isLc 128 rfl ?_; refine lex_R rfl (by kernel_rfl) rfl (step_callMs (K := []) (Rs' := [_]) [0] (by decide) rfl (c_once 20 (rowsD 4 q.2).2 hc2) (.cons rfl rfl rfl (curR_noH _) (curR_noH _) .nil) (.cons (.ptr rfl) (.cons (.same rfl) .nil)) (fun q hq => by cases hq) rfl) rfl ?_) | refine aops_nil ?_ | refine lex_done _ rfl (by kernel_rfl) ?_ | refine aw_ct rfl ?_ | refine aw_cf rfl ?_ | refine aw_block ?_ | with_reducible refine then_n ?_ | refine aw_skip ?_ | refine aw_exit ?_ | (with_reducible first | refine then_x ?_ | refine then_r ?_ | refine block_x ?_ | refine block_n ?_ | refine block_r ?_) | refine aw_ret ?_
        refine aw_cond rfl (fun p2 => ?_) (fun p2 => ?_)
        · have E : turnsR p (j + 1) = (q.1 ++ [sr], beC 20 (rowsD 4 q.2).2) := by rw [hE, hT, p1, p2]; rfl
          repeat' first | (refine isA ?_; refine do_R rfl (lit_of rfl rfl rfl rfl rfl) rfl ?_) | refine aw_seq ?_ | refine aw_region ?_ | refine aw_lex [] ?_ | (refine isA ?_; refine do_F rfl ?_) | (refine isL ?_; refine lex_F rfl (by kernel_rfl) rfl rfl ?_) | (refine isLg rfl ?_; refine lex_S rfl (by kernel_rfl) rfl rfl ?_) | (refine isAp ?_; refine do_R rfl (ap_l (t := rnT) (xs := q.1) (ys := [sr]) rfl rfl rfl rfl (.lst _ _) (by simp; omega) rfl) rfl ?_) | (refine isLp rfl ?_; refine lex_R rfl (by kernel_rfl) rfl (ap_l (t := rnT) (xs := q.1) (ys := [sr]) rfl rfl rfl rfl (.lst _ _) (by simp; omega) rfl) rfl ?_) | refine aops_nil ?_ | refine lex_done _ rfl (by kernel_rfl) ?_ | refine aw_ct rfl ?_ | refine aw_cf rfl ?_ | refine aw_block ?_ | with_reducible refine then_n ?_ | refine aw_skip ?_ | refine aw_exit ?_ | (with_reducible first | refine then_x ?_ | refine then_r ?_ | refine block_x ?_ | refine block_n ?_ | refine block_r ?_) | refine aw_ret ?_
          refine ⟨⟨j + 1, hlt⟩, by simp only; omega, ?_⟩
          simp only [E]
          exact subm 1 [0, 2] rfl rfl fix1 (by decide) (.cons rfl rfl rfl rfl (les_refl (curR_noH _)) (.cons rfl rfl rfl rfl (les_refl (flat_noH _ _)) .nil)) (by
            repeat' first | exact les_nil | refine les_cons ?_ ?_ | exact le_any | exact le_refl rfl | exact le_ptr rfl | exact le_sl rfl rfl | exact le_k (congrArg _ (show (k : Int) - ((j + 1 : Nat) : Int) = IntKind.i64.wrap ((k : Int) - (j : Int) - 1) by rw [IntKind.wrap_i64]; omega)))
        · have E : turnsR p (j + 1) = (q.1, beC 20 (rowsD 4 q.2).2) := by rw [hE, hT, p1, p2]; rfl
          repeat' first | refine aw_seq ?_ | refine aw_region ?_ | refine aw_lex [] ?_ | (refine isA ?_; refine do_F rfl ?_) | (refine isL ?_; refine lex_F rfl (by kernel_rfl) rfl rfl ?_) | (refine isLg rfl ?_; refine lex_S rfl (by kernel_rfl) rfl rfl ?_) | refine aops_nil ?_ | refine lex_done _ rfl (by kernel_rfl) ?_ | refine aw_ct rfl ?_ | refine aw_cf rfl ?_ | refine aw_block ?_ | with_reducible refine then_n ?_ | refine aw_skip ?_ | refine aw_exit ?_ | (with_reducible first | refine then_x ?_ | refine then_r ?_ | refine block_x ?_ | refine block_n ?_ | refine block_r ?_) | refine aw_ret ?_
          refine ⟨⟨j + 1, hlt⟩, by simp only; omega, ?_⟩
          simp only [E]
          exact subm 1 [0, 1] rfl rfl fix1 (by decide) (.cons rfl rfl rfl rfl (les_refl (curR_noH _)) (.cons rfl rfl rfl rfl (les_refl (flat_noH _ _)) .nil)) (by
            repeat' first | exact les_nil | refine les_cons ?_ ?_ | exact le_any | exact le_refl rfl | exact le_ptr rfl | exact le_sl rfl rfl | exact le_k (congrArg _ (show (k : Int) - ((j + 1 : Nat) : Int) = IntKind.i64.wrap ((k : Int) - (j : Int) - 1) by rw [IntKind.wrap_i64]; omega)))
    · have hge : j = k := by have := of_decide_eq_false h; simp only at this; omega
      subst hge
      generalize turnsR p j = q at hcl hjs hjl
      repeat' first | refine aw_seq ?_ | refine aw_region ?_ | refine aw_lex [] ?_ | (refine isA ?_; refine do_F rfl ?_) | (refine isL ?_; refine lex_F rfl (by kernel_rfl) rfl rfl ?_) | (refine isLg rfl ?_; refine lex_S rfl (by kernel_rfl) rfl rfl ?_) | refine aops_nil ?_ | refine lex_done _ rfl (by kernel_rfl) ?_ | refine aw_ct rfl ?_ | refine aw_cf rfl ?_ | refine aw_block ?_ | with_reducible refine then_n ?_ | refine aw_skip ?_ | refine aw_exit ?_ | (with_reducible first | refine then_x ?_ | refine then_r ?_ | refine block_x ?_ | refine block_n ?_ | refine block_r ?_) | refine aw_ret ?_
      refine do_br rfl rfl (fun p1 => ?_) (fun p1 => ?_)
      · have hc2 : (beC 12 q.2).code.length ≤ 1000000000 := by rw [beC_code]; exact hcl
        repeat' first | refine aw_seq ?_ | refine aw_region ?_ | refine aw_lex [] ?_ | (refine isA ?_; refine do_F rfl ?_) | (refine isL ?_; refine lex_F rfl (by kernel_rfl) rfl rfl ?_) | (refine isLg rfl ?_; refine lex_S rfl (by kernel_rfl) rfl rfl ?_) | (refine isAc 128 ?_; refine do_R rfl (step_callMs (K := []) (Rs' := [_]) [0] (by decide) rfl (c_once 12 q.2 hcl) (.cons rfl rfl rfl (curR_noH _) (curR_noH _) .nil) (.cons (.ptr rfl) (.cons (.same rfl) .nil)) (fun q hq => by cases hq) rfl) rfl ?_) | (refine isLc 128 rfl ?_; refine lex_R rfl (by kernel_rfl) rfl (step_callMs (K := []) (Rs' := [_]) [0] (by decide) rfl (c_once 12 q.2 hcl) (.cons rfl rfl rfl (curR_noH _) (curR_noH _) .nil) (.cons (.ptr rfl) (.cons (.same rfl) .nil)) (fun q hq => by cases hq) rfl) rfl ?_) | refine aops_nil ?_ | refine lex_done _ rfl (by kernel_rfl) ?_ | refine aw_ct rfl ?_ | refine aw_cf rfl ?_ | refine aw_block ?_ | with_reducible refine then_n ?_ | refine aw_skip ?_ | refine aw_exit ?_ | (with_reducible first | refine then_x ?_ | refine then_r ?_ | refine block_x ?_ | refine block_n ?_ | refine block_r ?_) | refine aw_ret ?_
        refine aw_cond rfl (fun p2 => ?_) (fun p2 => ?_)
        · have D : lastR q = (q.1.set 0 (rowsD 4 (beC 12 q.2)).1, (rowsD 4 (beC 12 q.2)).2) := by rw [lastR, p1, p2]; rfl
          have h0 : 0 < q.1.length := by have := of_decide_eq_true p1; omega
          repeat' first | refine aw_seq ?_ | refine aw_region ?_ | refine aw_lex [] ?_ | (refine isA ?_; refine do_F rfl ?_) | (refine isL ?_; refine lex_F rfl (by kernel_rfl) rfl rfl ?_) | (refine isLg rfl ?_; refine lex_S rfl (by kernel_rfl) rfl rfl ?_) | (refine isAc 129 ?_; refine do_R rfl (step_callMs (K := []) (Rs' := [_]) [0] (by decide) rfl (c_rowsZ 4 (by decide) (by decide) (beC 12 q.2) hc2) (.cons rfl rfl rfl (curR_noH _) (curR_noH _) .nil) (.cons (.ptr rfl) (.cons (.same rfl) .nil)) (fun q hq => by cases hq) rfl) rfl ?_) | (refine isLc 129 rfl ?_; refine lex_R rfl (by kernel_rfl) rfl (step_callMs (K := []) (Rs' := [_]) [0] (by decide) rfl (c_rowsZ 4 (by decide) (by decide) (beC 12 q.2) hc2) (.cons rfl rfl rfl (curR_noH _) (curR_noH _) .nil) (.cons (.ptr rfl) (.cons (.same rfl) .nil)) (fun q hq => by cases hq) rfl) rfl ?_) | (refine isAi ?_; refine do_R rfl (ia_s (t := rnT) (xs := q.1) rfl rfl rfl rfl rfl (Int.le_refl 0) (by omega)) rfl ?_) | (refine isLi rfl ?_; refine lex_R rfl (by kernel_rfl) rfl (ia_s (t := rnT) (xs := q.1) rfl rfl rfl rfl rfl (Int.le_refl 0) (by omega)) rfl ?_) | (refine isAs ?_; refine do_R rfl (set_l1 (T := rnT) (i := 0) (xs := q.1) (z := (rowsD 4 (beC 12 q.2)).1) rfl rfl rfl rfl rfl rfl h0) rfl ?_) | (refine isLs rfl ?_; refine lex_R rfl (by kernel_rfl) rfl (set_l1 (T := rnT) (i := 0) (xs := q.1) (z := (rowsD 4 (beC 12 q.2)).1) rfl rfl rfl rfl rfl rfl h0) rfl ?_) | exact (by rw [D]; exact finM 1 [0, 1] fix1 (by decide) rfl (le_sl rfl (by simp)) (.cons rfl rfl rfl rfl (les_refl (curR_noH _)) (.cons rfl rfl rfl rfl (les_refl (flat_noH _ _)) .nil))) | refine aops_nil ?_ | refine lex_done _ rfl (by kernel_rfl) ?_ | refine aw_ct rfl ?_ | refine aw_cf rfl ?_ | refine aw_block ?_ | with_reducible refine then_n ?_ | refine aw_skip ?_ | refine aw_exit ?_ | (with_reducible first | refine then_x ?_ | refine then_r ?_ | refine block_x ?_ | refine block_n ?_ | refine block_r ?_) | refine aw_ret ?_
        · have D : lastR q = (q.1, beC 12 q.2) := by rw [lastR, p1, p2]; rfl
          repeat' first | refine aw_seq ?_ | refine aw_region ?_ | refine aw_lex [] ?_ | (refine isA ?_; refine do_F rfl ?_) | (refine isL ?_; refine lex_F rfl (by kernel_rfl) rfl rfl ?_) | (refine isLg rfl ?_; refine lex_S rfl (by kernel_rfl) rfl rfl ?_) | exact (by rw [D]; exact finM 1 [0, 1] fix1 (by decide) rfl (le_sl rfl rfl) (.cons rfl rfl rfl rfl (les_refl (curR_noH _)) (.cons rfl rfl rfl rfl (les_refl (flat_noH _ _)) .nil))) | refine aops_nil ?_ | refine lex_done _ rfl (by kernel_rfl) ?_ | refine aw_ct rfl ?_ | refine aw_cf rfl ?_ | refine aw_block ?_ | with_reducible refine then_n ?_ | refine aw_skip ?_ | refine aw_exit ?_ | (with_reducible first | refine then_x ?_ | refine then_r ?_ | refine block_x ?_ | refine block_n ?_ | refine block_r ?_) | refine aw_ret ?_
      · have D : lastR q = q := by rw [lastR, p1]; rfl
        repeat' first | refine aw_seq ?_ | refine aw_region ?_ | refine aw_lex [] ?_ | (refine isA ?_; refine do_F rfl ?_) | (refine isL ?_; refine lex_F rfl (by kernel_rfl) rfl rfl ?_) | (refine isLg rfl ?_; refine lex_S rfl (by kernel_rfl) rfl rfl ?_) | exact (by rw [D]; exact finM 1 [0, 1] fix1 (by decide) rfl (le_sl rfl rfl) (.cons rfl rfl rfl rfl (les_refl (curR_noH _)) (.cons rfl rfl rfl rfl (les_refl (flat_noH _ _)) .nil))) | refine aops_nil ?_ | refine lex_done _ rfl (by kernel_rfl) ?_ | refine aw_ct rfl ?_ | refine aw_cf rfl ?_ | refine aw_block ?_ | with_reducible refine then_n ?_ | refine aw_skip ?_ | refine aw_exit ?_ | (with_reducible first | refine then_x ?_ | refine then_r ?_ | refine block_x ?_ | refine block_n ?_ | refine block_r ?_) | refine aw_ret ?_
theorem c_runs11Z (c : Cur) (hl : c.code.length ≤ 1000000000) : Meets Go.Proofs.Try.prog 118 [.ptr 0 0] [curR c] (rnL (runsD c).1) [curR (runsD c).2] true :=
  frz1 (c_runs11 c hl) (pur_row (T := rnT) rfl)
end Go.Proofs.Ytkcicbigpbdjpaa.Ab
