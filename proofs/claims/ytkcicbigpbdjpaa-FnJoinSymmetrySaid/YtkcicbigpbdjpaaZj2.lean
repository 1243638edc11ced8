/- Texts PaT, PaJ1, StH, PaG, PaI, PaJ, PaK, SoB0, PaN, PaO, JoE, DrwO in one. -/
import Derived.Test.YtkcicbigpbdjpaaZj1
import Derived.Test.YtkcicbigpbdjpaaAbW
import Derived.Test.YtkcicbigpbdjpaaZj0
import Derived.Test.YtkcicbigpbdjpaaAbY
import Derived.Test.YtkcicbigpbdjpaaAbR
set_option linter.unusedVariables false
set_option linter.unusedSimpArgs false
set_option maxRecDepth 20000
set_option maxHeartbeats 8000000
/- PaT -/
-- BY gen_pair.py
/-
  Lists in blocks that are in order (plain part of the stable sort).
-/
namespace Go.Proofs.Ytkcicbigpbdjpaa.Ab.Pr
open Go.RowKit

/-- Blocks of s rows, each in order; the last may be shorter. -/
inductive Blk (s : Nat) : List Rw → Prop where
  | last {X : List Rw} (hl : X.length ≤ s) (h : Srt X) : Blk s X
  | cons {X Y : List Rw} (hl : X.length = s) (h : Srt X) (t : Blk s Y) : Blk s (X ++ Y)
/-- Blocks of s rows, all of them whole. -/
def Full (s : Nat) (U : List Rw) : Prop := ∀ Z, Blk s Z → Blk s (U ++ Z)
theorem full_nil {s : Nat} : Full s [] := fun Z h => h
theorem full_snoc {s : Nat} {U X : List Rw} (hU : Full s U) (hl : X.length = s) (h : Srt X) : Full s (U ++ X) := fun Z hZ => by
  rw [List.append_assoc]; exact hU _ (.cons hl h hZ)
theorem full_last {s : Nat} {U X : List Rw} (hU : Full s U) (hl : X.length ≤ s) (h : Srt X) : Blk s (U ++ X) := hU _ (.last hl h)
theorem blk_srt {s : Nat} {V : List Rw} (h : Blk s V) (hl : V.length ≤ s) : Srt V := by
  cases h with
  | last _ h => exact h
  | @cons X Y hX h t =>
    have : Y = [] := List.eq_nil_of_length_eq_zero (by rw [List.length_append] at hl; omega)
    subst this
    rw [List.append_nil]
    exact h
theorem blk_cut {s : Nat} {V : List Rw} (h : Blk s V) (hl : s < V.length) : ∃ X Y, V = X ++ Y ∧ X.length = s ∧ Srt X ∧ Blk s Y := by
  cases h with
  | last q h => omega
  | @cons X Y hX h t => exact ⟨X, Y, rfl, hX, h, t⟩
theorem blk_two {s : Nat} {V : List Rw} (hs : 0 < s) (h : Blk s V) (hl : 2 * s ≤ V.length) : ∃ X Y Z, V = X ++ Y ++ Z ∧ X.length = s ∧ Y.length = s ∧ Srt X ∧ Srt Y ∧ Blk s Z := by
  obtain ⟨X, W, rfl, hX, sX, hW⟩ := blk_cut h (by omega)
  rw [List.length_append] at hl
  rcases Nat.lt_or_ge s W.length with hlt | hge
  · obtain ⟨Y, Z, rfl, hY, sY, hZ⟩ := blk_cut hW hlt
    exact ⟨X, Y, Z, by rw [List.append_assoc], hX, hY, sX, sY, hZ⟩
  · exact ⟨X, W, [], by simp, hX, by omega, sX, blk_srt hW hge, .last (Nat.zero_le _) List.Pairwise.nil⟩
theorem blk_rest {s : Nat} {V : List Rw} (h : Blk s V) (hl : s < V.length) (h2 : V.length < 2 * s) : ∃ X Y, V = X ++ Y ∧ X.length = s ∧ Srt X ∧ Srt Y ∧ 0 < Y.length := by
  obtain ⟨X, Y, rfl, hX, sX, hY⟩ := blk_cut h hl
  rw [List.length_append] at hl h2
  exact ⟨X, Y, rfl, hX, sX, blk_srt hY (by omega), by omega⟩
theorem srtV_id {xs : List Rw} (h : Srt xs) : srtV xs = xs := (srtV_of h (.refl _)).symm
end Go.Proofs.Ytkcicbigpbdjpaa.Ab.Pr

/- PaJ1 -/
-- BY gen_pair.py
/-
  The cut that symMerge finds (plain part).
-/
namespace Go.Proofs.Ytkcicbigpbdjpaa.Ab.Pr
open Go.RowKit

/-- What the search of the cut knows: the cut lies between i and j. -/
structure CutI (A B : List Rw) (w : Nat) (p : Nat × Nat) : Prop where
  lo : w - B.length ≤ p.1
  le : p.1 ≤ p.2
  hi : p.2 ≤ min A.length w
  hlo : ∀ x y, w - B.length < p.1 → A[p.1 - 1]? = some x → B[w - p.1]? = some y → leW x y
  hhi : ∀ y x, p.2 < min A.length w → B[w - 1 - p.2]? = some y → A[p.2]? = some x → leW y x
theorem cut0 {A B : List Rw} {w : Nat} (hw : w = (A.length + B.length) / 2) : CutI A B w (w - B.length, min A.length w) :=
  ⟨Nat.le_refl _, by simp only; omega, Nat.le_refl _, fun _ _ h => absurd h (Nat.lt_irrefl _), fun _ _ h => absurd h (Nat.lt_irrefl _)⟩
theorem cut_fin {A B : List Rw} {w u : Nat} (hw : w = (A.length + B.length) / 2) (hA : Srt A) (hB : Srt B) (h : CutI A B w (u, u)) :
    u ≤ A.length ∧ u ≤ w ∧ w - u ≤ B.length ∧ srtV (A.take u ++ B.take (w - u)) ++ srtV (A.drop u ++ B.drop (w - u)) = srtV (A ++ B) := by
  obtain ⟨h1, h2, h3, h4, h5⟩ := h
  simp only at h1 h2 h3 h4 h5
  refine ⟨by omega, by omega, by omega, sym_cut hA hB (by omega) (by omega) (fun x y h0 hx hy => ?_) (fun y x h0 hy hx => ?_)⟩
  · refine h4 x y ?_ hx hy
    have := (List.getElem?_eq_some_iff.1 hy).1
    omega
  · refine h5 y x ?_ ?_ hx
    · have := (List.getElem?_eq_some_iff.1 hx).1
      omega
    · rw [show w - 1 - u = w - u - 1 by omega]; exact hy
end Go.Proofs.Ytkcicbigpbdjpaa.Ab.Pr

/- StH -/
namespace Go.Proofs.Ytkcicbigpbdjpaa.Ab
open Go.RowKit
theorem shr_half {v : Int} (h0 : 0 ≤ v) : bShr .u64 v 1 = v / 2 := by
  unfold bShr
  show v.fdiv 2 = v / 2
  exact Int.fdiv_eq_ediv_of_nonneg v (by omega)
theorem half_val {i j : Nat} (h : i + j ≤ 1000000000000) : IntKind.i64.wrap (bShr .u64 (IntKind.u64.wrap (IntKind.i64.wrap ((i : Int) + (j : Int)))) 1) = (((i + j) / 2 : Nat) : Int) := by
  have e1 : IntKind.i64.wrap ((i : Int) + (j : Int)) = ((i + j : Nat) : Int) := by rw [IntKind.wrap_i64]; omega
  have e2 : IntKind.u64.wrap (((i + j : Nat) : Int)) = ((i + j : Nat) : Int) := by
    unfold IntKind.wrap
    simp [IntKind.bits, IntKind.signed]
    omega
  rw [e1, e2, shr_half (by omega), IntKind.wrap_i64]
  omega
end Go.Proofs.Ytkcicbigpbdjpaa.Ab

/- PaG -/
-- BY gen_pair.py
/-
  slices.symMergeCmpFunc@Pair over rows: two neighbouring ranges in order become one. 
-/
namespace Go.Proofs.Ytkcicbigpbdjpaa.Ab.Pr
open Go.RowKit

/-- x before a list in order: where it goes. -/
theorem srt_front {x : Rw} {B : List Rw} {u : Nat} (hB : Srt B) (hu : u ≤ B.length) (h1 : ∀ z, 0 < u → B[u - 1]? = some z → leW z x) (h2 : ∀ z, B[u]? = some z → leW x z) : B.take u ++ x :: B.drop u = srtV ([x] ++ B) := by
  have h := sym_cut (A := [x]) (B := B) (u := 0) (v := u) (List.pairwise_singleton _ _) hB (Nat.zero_le _) hu (fun _ _ h => absurd h (Nat.lt_irrefl 0)) (fun y z h0 hy hz => by
    simp at hz
    subst hz
    exact h1 y h0 hy)
  refine srtV_of ?_ ?_
  · have hs : Srt (B.take u ++ B.drop u) := by rw [List.take_append_drop]; exact hB
    obtain ⟨q1, q2, q3⟩ := List.pairwise_append.1 hs
    have hlo := cut_le (A := B) (B := [x]) (u := u) (v := 0) hB (List.pairwise_singleton _ _) hu (fun z y h0 hz hy => by simp at hy; subst hy; exact h1 z h0 hz)
    have hhi := cut_le (A := [x]) (B := B) (u := 1) (v := u) (List.pairwise_singleton _ _) hB (by simp) (fun z y _ hz hy => by simp at hz; subst hz; exact h2 y hy)
    refine List.pairwise_append.2 ⟨q1, List.pairwise_cons.2 ⟨fun y hy => hhi x (by simp) y hy, q2⟩, fun a ha c hc => ?_⟩
    rcases List.mem_cons.1 hc with rfl | hc
    · exact hlo a ha _ (by simp)
    · exact q3 a ha c hc
  · exact List.perm_middle.trans (by rw [List.take_append_drop]; exact .refl _)
/-- x behind a list in order: where it goes. -/
theorem srt_back {x : Rw} {A : List Rw} {u : Nat} (hA : Srt A) (hu : u ≤ A.length) (h1 : ∀ z, 0 < u → A[u - 1]? = some z → leW z x) (h2 : ∀ z, A[u]? = some z → leW x z) : A.take u ++ x :: A.drop u = srtV (A ++ [x]) := by
  rw [srt_front hA hu h1 h2]
  exact srtV_of (srtV_srt _) ((srtV_perm _).trans List.perm_append_comm)
theorem finMvr {l : List V} {H : List Reg} {K : List Reg} (k : Nat) (ψ : List Nat) (hfix : ∀ i, i < k → ψ[i]? = some i) (hnd : ψ.Nodup) (hH : HLes ψ H ψ K) : (Exit.ret = .ret ∨ Exit.ret = .normal) ∧ Out true (.tup []) K (resV ⟨l, H, k⟩ []) ⟨l, H, k⟩ :=
  ⟨Or.inl rfl, out_of (S := ⟨l, H, k⟩) ψ hfix (hle_of hnd hH) (le_tup les_nil) (Or.inl rfl)⟩
theorem swap_up {U W : List Rw} {x y : Rw} {u : Nat} (hu : U.length = u) : ((U ++ x :: y :: W).set u y).set (u + 1) x = U ++ y :: x :: W := by
  subst hu
  have h1 : (U ++ x :: y :: W).set U.length y = U ++ y :: y :: W := by rw [List.set_append_right _ _ (Nat.le_refl _), Nat.sub_self]; rfl
  rw [h1, List.set_append_right _ _ (by omega), show U.length + 1 - U.length = 1 by omega]
  rfl
/-- x, carried t places up. -/
def upL (P B Q : List Rw) (x : Rw) (t : Nat) : List Rw := P ++ B.take t ++ x :: (B.drop t ++ Q)
theorem half_lt {i j : Nat} (h : i < j) : i ≤ (i + j) / 2 ∧ (i + j) / 2 < j := by omega

theorem c_sym1 (P B Q : List Rw) (x : Rw) (hB : Srt B) (h0 : 0 < B.length) (hl : (P ++ [x] ++ B ++ Q).length ≤ 100000000) : Meets Go.Proofs.Try.prog 167 [.sl 0 0 (P ++ [x] ++ B ++ Q).length, I P.length, I (P ++ [x]).length, I (P ++ [x] ++ B).length, .fn 77 []] [rwR (P ++ [x] ++ B ++ Q)] (.tup []) [rwR (P ++ srtV ([x] ++ B) ++ Q)] true := by
  have l1 : (P ++ [x]).length = P.length + 1 := by simp
  have l2 : (P ++ [x] ++ B).length = P.length + 1 + B.length := by simp; omega
  have l3 : (P ++ [x] ++ B ++ Q).length = P.length + 1 + B.length + Q.length := by simp; omega
  generalize hm : (P ++ [x]).length = m at l1 ⊢
  generalize hb : (P ++ [x] ++ B).length = b at l2 ⊢
  generalize hL : (P ++ [x] ++ B ++ Q).length = L at hl l3 ⊢
  refine meets_of [] Go.Proofs.Try.func167 rfl rfl ?_
  simp only [Go.Proofs.Try.ntmps167, List.length_cons, List.length_nil, Nat.reduceAdd, Nat.reduceSub, List.replicate_succ, List.replicate_zero, List.cons_append, List.nil_append]
  repeat' first | refine aw_seq ?_ | refine aw_region ?_ | refine aw_lex [] ?_ | (refine isA ?_; refine do_F rfl ?_) | (refine isL ?_; refine lex_F rfl (by kernel_rfl) rfl rfl ?_) | (refine isLg rfl ?_; refine lex_S rfl (by kernel_rfl) rfl rfl ?_) | refine aops_nil ?_ | refine lex_done _ rfl (by kernel_rfl) ?_ | refine aw_ct rfl ?_ | refine aw_cf rfl ?_ | refine aw_block ?_ | with_reducible refine then_n ?_ | refine aw_skip ?_ | refine aw_exit ?_ | (with_reducible first | refine then_x ?_ | refine then_r ?_ | refine block_x ?_ | refine block_n ?_ | refine block_r ?_) | refine aw_ret ?_
  refine aw_cond rfl (fun _ => ?_) (fun h => absurd (of_decide_eq_false h) (by rw [IntKind.wrap_i64]; omega))
  repeat' first | refine aw_seq ?_ | refine aw_region ?_ | refine aw_lex [] ?_ | (refine isA ?_; refine do_F rfl ?_) | (refine isL ?_; refine lex_F rfl (by kernel_rfl) rfl rfl ?_) | (refine isLg rfl ?_; refine lex_S rfl (by kernel_rfl) rfl rfl ?_) | refine aops_nil ?_ | refine lex_done _ rfl (by kernel_rfl) ?_ | refine aw_ct rfl ?_ | refine aw_cf rfl ?_ | refine aw_block ?_ | with_reducible refine then_n ?_ | refine aw_skip ?_ | refine aw_exit ?_ | (with_reducible first | refine then_x ?_ | refine then_r ?_ | refine block_x ?_ | refine block_n ?_ | refine block_r ?_) | refine aw_ret ?_
  refine aw_loop (α := { p : Nat × Nat // p.1 ≤ p.2 ∧ p.2 ≤ B.length ∧ (∀ z, 0 < p.1 → B[p.1 - 1]? = some z → leW z x) ∧ (∀ z, B[p.2]? = some z → leW x z) }) (fun p => ⟨((.sl 0 0 L) :: (I P.length) :: (I m) :: (I b) :: (.fn 77 []) :: .any :: .any :: .any :: .any :: .any :: (I ((m + p.1.1 : Nat) : Int)) :: (I ((m + p.1.2 : Nat) : Int)) :: .any :: .any :: .any :: .any :: .any :: .any :: .any :: .any :: .any :: .any :: .any :: .any :: .any :: .any :: .any :: .any :: .any :: .any :: .any :: .any :: .any :: .any :: .any :: .any :: .any :: .any :: .any :: .any :: .any :: .any :: .any :: .any :: .any :: .any :: .any :: .any :: .any :: .any :: .any :: .any :: .any :: .any :: .any :: .any :: .any :: .any :: .any :: .any :: .any :: .any :: .any :: .any :: .any :: .any :: .any :: .any :: .any :: .any :: .any :: .any :: .any :: .any :: .any :: .any :: .any :: .any :: .any :: .any :: .any :: .any :: .any :: .any :: .any :: .any :: .any :: .any :: .any :: .any :: .any :: .any :: .any :: .any :: .any :: .any :: .any :: .any :: .any :: .any :: .any :: .any :: .any :: .any :: .any :: .any :: .any :: .any :: .any :: .any :: .any :: .any :: .any :: .any :: .any :: .any :: .any :: .any :: .any :: .any :: .any :: .any :: .any :: .any :: .any :: .any :: .any :: .any :: .any :: .any :: .any :: .any :: .any :: .any :: .any :: .any :: .any :: .any :: .any :: .any :: .any :: .any :: .any :: .any :: .any :: .any :: .any :: .any :: .any :: .any :: .any :: .any :: .any :: .any :: .any :: .any :: .any :: .any :: .any :: .any :: .any :: .any :: .any :: .any :: .any :: .any :: .any :: .any :: .any :: .any :: .any :: .any :: .any :: .any :: .any :: .any :: .any :: .any :: .any :: .any :: .any :: .any :: .any :: .any :: .any :: .any :: .any :: .any :: .any :: .any :: .any :: .any :: .any :: .any :: .any :: .any :: .any :: .any :: .any :: .any :: .any :: .any :: .any :: .any :: .any :: .any :: .any :: .any :: .any :: .any :: .any :: .any :: .any :: .any :: .any :: .any :: .any :: .any :: .any :: .any :: []), [rwR (P ++ [x] ++ B ++ Q)], 1⟩) (fun p => p.1.2 - p.1.1) ⟨(0, B.length), Nat.zero_le _, Nat.le_refl _, fun _ h => absurd h (Nat.lt_irrefl 0), fun z hz => absurd (List.getElem?_eq_some_iff.1 hz).1 (Nat.lt_irrefl _)⟩ ?_ ?_
  · exact subm 1 [0] rfl rfl fix1 (by decide) (.cons rfl rfl rfl rfl (les_refl (flat_noH _ _)) .nil) (by
      repeat' first | exact les_nil | refine les_cons ?_ ?_ | exact le_any | exact le_refl rfl | exact le_sl rfl rfl | exact le_k (congrArg _ (show ((m + B.length : Nat) : Int) = (b : Int) by omega)))
  · rintro ⟨⟨i, j⟩, hij, hj, hlo, hhi⟩
    simp only at hij hj hlo hhi
    repeat' first | refine aw_seq ?_ | refine aw_region ?_ | refine aw_lex [] ?_ | (refine isA ?_; refine do_F rfl ?_) | (refine isL ?_; refine lex_F rfl (by kernel_rfl) rfl rfl ?_) | (refine isLg rfl ?_; refine lex_S rfl (by kernel_rfl) rfl rfl ?_) | refine aops_nil ?_ | refine lex_done _ rfl (by kernel_rfl) ?_ | refine aw_ct rfl ?_ | refine aw_cf rfl ?_ | refine aw_block ?_ | with_reducible refine then_n ?_ | refine aw_skip ?_ | refine aw_exit ?_ | (with_reducible first | refine then_x ?_ | refine then_r ?_ | refine block_x ?_ | refine block_n ?_ | refine block_r ?_) | refine aw_ret ?_
    refine aw_cond rfl (fun h => ?_) (fun h => ?_)
    · have hlt : i < j := by have := of_decide_eq_true h; simp only at this; omega
      obtain ⟨k, hk⟩ : ∃ k, k = (i + j) / 2 := ⟨_, rfl⟩
      have k1 : i ≤ k ∧ k < j := by omega
      have hv : IntKind.i64.wrap (bShr .u64 (IntKind.u64.wrap (IntKind.i64.wrap (((m + i : Nat) : Int) + ((m + j : Nat) : Int)))) 1) = ((m + k : Nat) : Int) := by
        rw [half_val (by omega)]; omega
      obtain ⟨y, hy⟩ : ∃ z, B[k]? = some z := ⟨_, List.getElem?_eq_getElem (by omega)⟩
      have gy : (P ++ [x] ++ B ++ Q)[0 + (m + k)]? = some y := by
        rw [List.getElem?_append_left (by omega), List.getElem?_append_right (by omega), hm, show 0 + (m + k) - m = k by omega]; exact hy
      have gx : (P ++ [x] ++ B ++ Q)[0 + P.length]? = some x := by
        rw [Nat.zero_add, List.append_assoc, List.append_assoc, List.getElem?_append_right (Nat.le_refl _), Nat.sub_self]; rfl
      repeat' first | refine aw_seq ?_ | refine aw_region ?_ | refine aw_lex [] ?_ | (refine isA ?_; refine do_F rfl ?_) | (refine isL ?_; refine lex_F rfl (by kernel_rfl) rfl rfl ?_) | (refine isLg rfl ?_; refine lex_S rfl (by kernel_rfl) rfl rfl ?_) | refine do_R rfl (step_shr (n := 1) rfl rfl rfl) rfl ?_ | refine lex_R rfl (by kernel_rfl) rfl (step_shr (n := 1) rfl rfl rfl) rfl ?_ | (refine isAi (x := .tmp 41) ?_; refine do_R rfl (step_ia_sl (j := ((m + k : Nat) : Int)) rfl rfl rfl (Nat.zero_le _) rfl (congrArg I hv) (Int.natCast_nonneg _) (by omega)) rfl ?_) | (refine isLi (x := .tmp 41) rfl ?_; refine lex_R rfl (by kernel_rfl) rfl (step_ia_sl (j := ((m + k : Nat) : Int)) rfl rfl rfl (Nat.zero_le _) rfl (congrArg I hv) (Int.natCast_nonneg _) (by omega)) rfl ?_) | (refine isAi (x := .tmp 45) ?_; refine do_R rfl (step_ia_sl (j := (P.length : Int)) rfl rfl rfl (Nat.zero_le _) rfl rfl (Int.natCast_nonneg _) (by omega)) rfl ?_) | (refine isLi (x := .tmp 45) rfl ?_; refine lex_R rfl (by kernel_rfl) rfl (step_ia_sl (j := (P.length : Int)) rfl rfl rfl (Nat.zero_le _) rfl rfl (Int.natCast_nonneg _) (by omega)) rfl ?_) | (refine isAl (x := .tmp 43) ?_; refine do_R rfl (ld_a (T := rwT) (i := 0 + (m + k)) (z := y) rfl rfl rfl gy) rfl ?_) | (refine isLl (x := .tmp 43) rfl ?_; refine lex_R rfl (by kernel_rfl) rfl (ld_a (T := rwT) (i := 0 + (m + k)) (z := y) rfl rfl rfl gy) rfl ?_) | (refine isAl (x := .tmp 47) ?_; refine do_R rfl (ld_a (T := rwT) (i := 0 + P.length) (z := x) rfl rfl rfl gx) rfl ?_) | (refine isLl (x := .tmp 47) rfl ?_; refine lex_R rfl (by kernel_rfl) rfl (ld_a (T := rwT) (i := 0 + P.length) (z := x) rfl rfl rfl gx) rfl ?_) | refine do_R rfl (st_callV rfl rfl (c_icmp y x) (.cons (.same rfl) (.cons (.same rfl) .nil)) rfl) rfl ?_ | refine lex_R rfl (by kernel_rfl) rfl (st_callV rfl rfl (c_icmp y x) (.cons (.same rfl) (.cons (.same rfl) .nil)) rfl) rfl ?_ | refine aops_nil ?_ | refine lex_done _ rfl (by kernel_rfl) ?_ | refine aw_ct rfl ?_ | refine aw_cf rfl ?_ | refine aw_block ?_ | with_reducible refine then_n ?_ | refine aw_skip ?_ | refine aw_exit ?_ | (with_reducible first | refine then_x ?_ | refine then_r ?_ | refine block_x ?_ | refine block_n ?_ | refine block_r ?_) | refine aw_ret ?_
      refine aw_cond rfl (fun p => ?_) (fun p => ?_)
      · have q := leW_not (cmp_neg.1 (of_decide_eq_true p))
        repeat' first | refine aw_seq ?_ | refine aw_region ?_ | refine aw_lex [] ?_ | (refine isA ?_; refine do_F rfl ?_) | (refine isL ?_; refine lex_F rfl (by kernel_rfl) rfl rfl ?_) | (refine isLg rfl ?_; refine lex_S rfl (by kernel_rfl) rfl rfl ?_) | refine aops_nil ?_ | refine lex_done _ rfl (by kernel_rfl) ?_ | refine aw_ct rfl ?_ | refine aw_cf rfl ?_ | refine aw_block ?_ | with_reducible refine then_n ?_ | refine aw_skip ?_ | refine aw_exit ?_ | (with_reducible first | refine then_x ?_ | refine then_r ?_ | refine block_x ?_ | refine block_n ?_ | refine block_r ?_) | refine aw_ret ?_
        refine ⟨⟨(k + 1, j), by simp only; omega, hj, fun z _ hz => by simp only [Nat.add_sub_cancel] at hz; rw [hy] at hz; cases hz; exact q, hhi⟩, by simp only; omega, ?_⟩
        exact subm 1 [0] rfl rfl fix1 (by decide) (.cons rfl rfl rfl rfl (les_refl (flat_noH _ _)) .nil) (by
          repeat' first | exact les_nil | refine les_cons ?_ ?_ | exact le_any | exact le_refl rfl | exact le_sl rfl rfl | exact le_k (congrArg _ (show ((m + (k + 1) : Nat) : Int) = IntKind.i64.wrap (IntKind.i64.wrap (bShr .u64 (IntKind.u64.wrap (IntKind.i64.wrap (((m + i : Nat) : Int) + ((m + j : Nat) : Int)))) 1) + 1) by rw [hv, IntKind.wrap_i64]; omega)))
      · have q : leW x y := Classical.byContradiction fun hn => absurd (cmp_neg.2 hn) (of_decide_eq_false p)
        repeat' first | refine aw_seq ?_ | refine aw_region ?_ | refine aw_lex [] ?_ | (refine isA ?_; refine do_F rfl ?_) | (refine isL ?_; refine lex_F rfl (by kernel_rfl) rfl rfl ?_) | (refine isLg rfl ?_; refine lex_S rfl (by kernel_rfl) rfl rfl ?_) | refine aops_nil ?_ | refine lex_done _ rfl (by kernel_rfl) ?_ | refine aw_ct rfl ?_ | refine aw_cf rfl ?_ | refine aw_block ?_ | with_reducible refine then_n ?_ | refine aw_skip ?_ | refine aw_exit ?_ | (with_reducible first | refine then_x ?_ | refine then_r ?_ | refine block_x ?_ | refine block_n ?_ | refine block_r ?_) | refine aw_ret ?_
        refine ⟨⟨(i, k), k1.1, by simp only; omega, hlo, fun z hz => by rw [hy] at hz; cases hz; exact q⟩, by simp only; omega, ?_⟩
        exact subm 1 [0] rfl rfl fix1 (by decide) (.cons rfl rfl rfl rfl (les_refl (flat_noH _ _)) .nil) (by
          repeat' first | exact les_nil | refine les_cons ?_ ?_ | exact le_any | exact le_refl rfl | exact le_sl rfl rfl | exact le_k (congrArg _ hv.symm))
    · have e : i = j := by have := of_decide_eq_false h; simp only at this; omega
      subst e
      have hfin := srt_front hB hj hlo hhi
      have e1 : IntKind.i64.wrap (((m + i : Nat) : Int) - 1) = ((P.length + i : Nat) : Int) := by rw [IntKind.wrap_i64]; omega
      repeat' first | refine aw_seq ?_ | refine aw_region ?_ | refine aw_lex [] ?_ | (refine isA ?_; refine do_F rfl ?_) | (refine isL ?_; refine lex_F rfl (by kernel_rfl) rfl rfl ?_) | (refine isLg rfl ?_; refine lex_S rfl (by kernel_rfl) rfl rfl ?_) | refine aops_nil ?_ | refine lex_done _ rfl (by kernel_rfl) ?_ | refine aw_ct rfl ?_ | refine aw_cf rfl ?_ | refine aw_block ?_ | with_reducible refine then_n ?_ | refine aw_skip ?_ | refine aw_exit ?_ | (with_reducible first | refine then_x ?_ | refine then_r ?_ | refine block_x ?_ | refine block_n ?_ | refine block_r ?_) | refine aw_ret ?_
      refine aw_loop (α := { t : Nat // t ≤ i }) (fun t => ⟨((.sl 0 0 L) :: .any :: .any :: .any :: .any :: .any :: .any :: .any :: .any :: .any :: (I ((m + i : Nat) : Int)) :: .any :: .any :: (I ((P.length + t.1 : Nat) : Int)) :: .any :: .any :: .any :: .any :: .any :: .any :: .any :: .any :: .any :: .any :: .any :: .any :: .any :: .any :: .any :: .any :: .any :: .any :: .any :: .any :: .any :: .any :: .any :: .any :: .any :: .any :: .any :: .any :: .any :: .any :: .any :: .any :: .any :: .any :: .any :: .any :: .any :: .any :: .any :: .any :: .any :: .any :: .any :: .any :: .any :: .any :: .any :: .any :: .any :: .any :: .any :: .any :: .any :: .any :: .any :: .any :: .any :: .any :: .any :: .any :: .any :: .any :: .any :: .any :: .any :: .any :: .any :: .any :: .any :: .any :: .any :: .any :: .any :: .any :: .any :: .any :: .any :: .any :: .any :: .any :: .any :: .any :: .any :: .any :: .any :: .any :: .any :: .any :: .any :: .any :: .any :: .any :: .any :: .any :: .any :: .any :: .any :: .any :: .any :: .any :: .any :: .any :: .any :: .any :: .any :: .any :: .any :: .any :: .any :: .any :: .any :: .any :: .any :: .any :: .any :: .any :: .any :: .any :: .any :: .any :: .any :: .any :: .any :: .any :: .any :: .any :: .any :: .any :: .any :: .any :: .any :: .any :: .any :: .any :: .any :: .any :: .any :: .any :: .any :: .any :: .any :: .any :: .any :: .any :: .any :: .any :: .any :: .any :: .any :: .any :: .any :: .any :: .any :: .any :: .any :: .any :: .any :: .any :: .any :: .any :: .any :: .any :: .any :: .any :: .any :: .any :: .any :: .any :: .any :: .any :: .any :: .any :: .any :: .any :: .any :: .any :: .any :: .any :: .any :: .any :: .any :: .any :: .any :: .any :: .any :: .any :: .any :: .any :: .any :: .any :: .any :: .any :: .any :: .any :: .any :: .any :: .any :: .any :: .any :: .any :: .any :: .any :: .any :: .any :: .any :: .any :: []), [rwR (upL P B Q x t.1)], 1⟩) (fun t => i - t.1) ⟨0, Nat.zero_le _⟩ ?_ ?_
      · exact subm 1 [0] rfl rfl fix1 (by decide) (.cons rfl rfl rfl rfl (les_eq (congrArg rwT.flat (by simp [upL])) (flat_noH _ _)) .nil) (by repeat' first | exact les_nil | refine les_cons ?_ ?_ | exact le_any | exact le_refl rfl | exact le_sl rfl rfl | exact le_ptr rfl)
      · rintro ⟨t, ht⟩
        repeat' first | refine aw_seq ?_ | refine aw_region ?_ | refine aw_lex [] ?_ | (refine isA ?_; refine do_F rfl ?_) | (refine isL ?_; refine lex_F rfl (by kernel_rfl) rfl rfl ?_) | (refine isLg rfl ?_; refine lex_S rfl (by kernel_rfl) rfl rfl ?_) | refine aops_nil ?_ | refine lex_done _ rfl (by kernel_rfl) ?_ | refine aw_ct rfl ?_ | refine aw_cf rfl ?_ | refine aw_block ?_ | with_reducible refine then_n ?_ | refine aw_skip ?_ | refine aw_exit ?_ | (with_reducible first | refine then_x ?_ | refine then_r ?_ | refine block_x ?_ | refine block_n ?_ | refine block_r ?_) | refine aw_ret ?_
        refine aw_cond rfl (fun q => ?_) (fun q => ?_)
        · have hlt : t < i := by have := of_decide_eq_true q; simp only [e1] at this; omega
          obtain ⟨y, hy⟩ : ∃ z, B[t]? = some z := ⟨_, List.getElem?_eq_getElem (by omega)⟩
          have hL1 : upL P B Q x t = (P ++ B.take t) ++ x :: y :: (B.drop (t + 1) ++ Q) := by rw [upL, take_drop1 hy]; rfl
          have hL2 : upL P B Q x (t + 1) = (P ++ B.take t) ++ y :: x :: (B.drop (t + 1) ++ Q) := by rw [upL, take_snoc hy]; simp
          have hu : (P ++ B.take t).length = P.length + t := by simp; omega
          have e2 : IntKind.i64.wrap (((P.length + t : Nat) : Int) + 1) = ((P.length + t + 1 : Nat) : Int) := by rw [IntKind.wrap_i64]; omega
          have g0 : (upL P B Q x t)[0 + (P.length + t)]? = some x := by rw [hL1, List.getElem?_append_right (by omega), hu, show 0 + (P.length + t) - (P.length + t) = 0 by omega]; rfl
          have g1 : (upL P B Q x t)[0 + (P.length + t + 1)]? = some y := by rw [hL1, List.getElem?_append_right (by omega), hu, show 0 + (P.length + t + 1) - (P.length + t) = 1 by omega]; rfl
          repeat' first | refine aw_seq ?_ | refine aw_region ?_ | (refine isA ?_; refine do_F rfl ?_) | (refine isL ?_; refine lex_F rfl (by kernel_rfl) rfl rfl ?_) | (refine isLg rfl ?_; refine lex_S rfl (by kernel_rfl) rfl rfl ?_) | refine aops_nil ?_ | refine lex_done _ rfl (by kernel_rfl) ?_ | refine aw_ct rfl ?_ | refine aw_cf rfl ?_ | refine aw_block ?_ | with_reducible refine then_n ?_ | refine aw_skip ?_ | refine aw_exit ?_ | (with_reducible first | refine then_x ?_ | refine then_r ?_ | refine block_x ?_ | refine block_n ?_ | refine block_r ?_) | refine aw_ret ?_
          refine aw_per [15, 17] 18 rfl ?_
          refine per_P 0 rfl (by kernel_rfl) rfl (fun _ => rfl) rfl ?_
          refine per_P 1 rfl (by kernel_rfl) rfl (fun _ => rfl) rfl ?_
          refine per_P 2 rfl (by kernel_rfl) rfl (fun _ => rfl) rfl ?_
          refine per_P 3 rfl (by kernel_rfl) rfl (fun _ => rfl) rfl ?_
          refine per_P 4 rfl (by kernel_rfl) rfl (fun _ => rfl) rfl ?_
          refine per_P 5 rfl (by kernel_rfl) rfl (fun _ => rfl) rfl ?_
          refine per_P 6 rfl (by kernel_rfl) rfl (fun _ => rfl) rfl ?_
          refine per_P 7 rfl (by kernel_rfl) rfl (fun _ => rfl) rfl ?_
          refine per_R 8 rfl (by kernel_rfl) rfl (step_ia_sl (j := ((P.length + t + 1 : Nat) : Int)) rfl rfl rfl (Nat.zero_le _) rfl (congrArg I e2) (Int.natCast_nonneg _) (by omega)) rfl ?_
          refine per_R 9 rfl (by kernel_rfl) rfl (ld_a (T := rwT) (i := 0 + (P.length + t + 1)) (z := y) rfl rfl rfl g1) rfl ?_
          refine per_P 10 rfl (by kernel_rfl) rfl (fun _ => rfl) rfl ?_
          refine per_P 11 rfl (by kernel_rfl) rfl (fun _ => rfl) rfl ?_
          refine per_R 12 rfl (by kernel_rfl) rfl (step_ia_sl (j := ((P.length + t : Nat) : Int)) rfl rfl rfl (Nat.zero_le _) rfl rfl (Int.natCast_nonneg _) (by omega)) rfl ?_
          refine per_R 13 rfl (by kernel_rfl) rfl (ld_a (T := rwT) (i := 0 + (P.length + t)) (z := x) rfl rfl rfl g0) rfl ?_
          refine per_R 14 rfl (by kernel_rfl) rfl (step_ia_sl (j := ((P.length + t : Nat) : Int)) rfl rfl rfl (Nat.zero_le _) rfl rfl (Int.natCast_nonneg _) (by omega)) rfl ?_
          refine per_W 15 rfl (by kernel_rfl) rfl rfl (set_l (T := rwT) (i := 0 + (P.length + t)) (z := y) rfl rfl rfl rfl rfl (List.getElem?_eq_some_iff.1 g0).1) rfl ?_
          refine per_R 16 rfl (by kernel_rfl) rfl (step_ia_sl (j := ((P.length + t + 1 : Nat) : Int)) rfl rfl rfl (Nat.zero_le _) rfl (congrArg I e2) (Int.natCast_nonneg _) (by omega)) rfl ?_
          refine per_W 17 rfl (by kernel_rfl) rfl rfl (set_l (T := rwT) (i := 0 + (P.length + t + 1)) (z := x) rfl rfl rfl rfl rfl (by rw [List.length_set]; exact (List.getElem?_eq_some_iff.1 g1).1)) rfl ?_
          refine per_done (by kernel_rfl) ?_
          repeat' first | refine aw_seq ?_ | refine aw_region ?_ | refine aw_lex [] ?_ | (refine isA ?_; refine do_F rfl ?_) | (refine isL ?_; refine lex_F rfl (by kernel_rfl) rfl rfl ?_) | (refine isLg rfl ?_; refine lex_S rfl (by kernel_rfl) rfl rfl ?_) | refine aops_nil ?_ | refine lex_done _ rfl (by kernel_rfl) ?_ | refine aw_ct rfl ?_ | refine aw_cf rfl ?_ | refine aw_block ?_ | with_reducible refine then_n ?_ | refine aw_skip ?_ | refine aw_exit ?_ | (with_reducible first | refine then_x ?_ | refine then_r ?_ | refine block_x ?_ | refine block_n ?_ | refine block_r ?_) | refine aw_ret ?_
          refine ⟨⟨t + 1, hlt⟩, by simp only; omega, ?_⟩
          exact subm 1 [0] rfl rfl fix1 (by decide) (.cons rfl rfl rfl rfl (les_eq (show rwT.flat (((upL P B Q x t).set (0 + (P.length + t)) y).set (0 + (P.length + t + 1)) x) = rwT.flat (upL P B Q x (t + 1)) by rw [hL1, Nat.zero_add, Nat.zero_add, swap_up hu, hL2]) (flat_noH _ _)) .nil) (by
            repeat' first | exact les_nil | refine les_cons ?_ ?_ | exact le_any | exact le_refl rfl | exact le_sl rfl rfl | exact le_k (congrArg _ (show ((P.length + (t + 1) : Nat) : Int) = IntKind.i64.wrap (((P.length + t : Nat) : Int) + 1) by rw [e2]; omega)))
        · have hge : t = i := by have := of_decide_eq_false q; simp only [e1] at this; omega
          subst hge
          have e3 : upL P B Q x t = P ++ srtV ([x] ++ B) ++ Q := by rw [← hfin, upL]; simp
          repeat' first | refine aw_seq ?_ | refine aw_region ?_ | refine aw_lex [] ?_ | (refine isA ?_; refine do_F rfl ?_) | (refine isL ?_; refine lex_F rfl (by kernel_rfl) rfl rfl ?_) | (refine isLg rfl ?_; refine lex_S rfl (by kernel_rfl) rfl rfl ?_) | exact finMvr 1 [0] fix1 (by decide) (.cons rfl rfl rfl rfl (les_eq (congrArg rwT.flat e3) (flat_noH _ _)) .nil) | refine aops_nil ?_ | refine lex_done _ rfl (by kernel_rfl) ?_ | refine aw_ct rfl ?_ | refine aw_cf rfl ?_ | refine aw_block ?_ | with_reducible refine then_n ?_ | refine aw_skip ?_ | refine aw_exit ?_ | (with_reducible first | refine then_x ?_ | refine then_r ?_ | refine block_x ?_ | refine block_n ?_ | refine block_r ?_) | refine aw_ret ?_
end Go.Proofs.Ytkcicbigpbdjpaa.Ab.Pr

/- PaI -/
-- BY gen_pair.py
/-
  symMergeCmpFunc: one row behind a list in order. 
-/
namespace Go.Proofs.Ytkcicbigpbdjpaa.Ab.Pr
open Go.RowKit

theorem c_sym2 (P A Q : List Rw) (x : Rw) (hA : Srt A) (h0 : 2 ≤ A.length) (hl : (P ++ A ++ [x] ++ Q).length ≤ 100000000) : Meets Go.Proofs.Try.prog 167 [.sl 0 0 (P ++ A ++ [x] ++ Q).length, I P.length, I (P ++ A).length, I (P ++ A ++ [x]).length, .fn 77 []] [rwR (P ++ A ++ [x] ++ Q)] (.tup []) [rwR (P ++ srtV (A ++ [x]) ++ Q)] true := by
  have l1 : (P ++ A).length = P.length + A.length := by simp
  have l2 : (P ++ A ++ [x]).length = P.length + A.length + 1 := by simp; omega
  have l3 : (P ++ A ++ [x] ++ Q).length = P.length + A.length + 1 + Q.length := by simp; omega
  generalize hm : (P ++ A).length = m at l1 ⊢
  generalize hb : (P ++ A ++ [x]).length = b at l2 ⊢
  generalize hL : (P ++ A ++ [x] ++ Q).length = L at hl l3 ⊢
  refine meets_of [] Go.Proofs.Try.func167 rfl rfl ?_
  simp only [Go.Proofs.Try.ntmps167, List.length_cons, List.length_nil, Nat.reduceAdd, Nat.reduceSub, List.replicate_succ, List.replicate_zero, List.cons_append, List.nil_append]
  repeat' first | refine aw_seq ?_ | refine aw_region ?_ | refine aw_lex [] ?_ | (refine isA ?_; refine do_F rfl ?_) | (refine isL ?_; refine lex_F rfl (by kernel_rfl) rfl rfl ?_) | (refine isLg rfl ?_; refine lex_S rfl (by kernel_rfl) rfl rfl ?_) | refine aops_nil ?_ | refine lex_done _ rfl (by kernel_rfl) ?_ | refine aw_ct rfl ?_ | refine aw_cf rfl ?_ | refine aw_block ?_ | with_reducible refine then_n ?_ | refine aw_skip ?_ | refine aw_exit ?_ | (with_reducible first | refine then_x ?_ | refine then_r ?_ | refine block_x ?_ | refine block_n ?_ | refine block_r ?_) | refine aw_ret ?_
  refine aw_cond rfl (fun h => absurd (of_decide_eq_true h) (by rw [IntKind.wrap_i64]; omega)) (fun _ => ?_)
  repeat' first | refine aw_seq ?_ | refine aw_region ?_ | refine aw_lex [] ?_ | (refine isA ?_; refine do_F rfl ?_) | (refine isL ?_; refine lex_F rfl (by kernel_rfl) rfl rfl ?_) | (refine isLg rfl ?_; refine lex_S rfl (by kernel_rfl) rfl rfl ?_) | refine aops_nil ?_ | refine lex_done _ rfl (by kernel_rfl) ?_ | refine aw_ct rfl ?_ | refine aw_cf rfl ?_ | refine aw_block ?_ | with_reducible refine then_n ?_ | refine aw_skip ?_ | refine aw_exit ?_ | (with_reducible first | refine then_x ?_ | refine then_r ?_ | refine block_x ?_ | refine block_n ?_ | refine block_r ?_) | refine aw_ret ?_
  refine aw_cond rfl (fun _ => ?_) (fun h => absurd (of_decide_eq_false h) (by rw [IntKind.wrap_i64]; omega))
  repeat' first | refine aw_seq ?_ | refine aw_region ?_ | refine aw_lex [] ?_ | (refine isA ?_; refine do_F rfl ?_) | (refine isL ?_; refine lex_F rfl (by kernel_rfl) rfl rfl ?_) | (refine isLg rfl ?_; refine lex_S rfl (by kernel_rfl) rfl rfl ?_) | refine aops_nil ?_ | refine lex_done _ rfl (by kernel_rfl) ?_ | refine aw_ct rfl ?_ | refine aw_cf rfl ?_ | refine aw_block ?_ | with_reducible refine then_n ?_ | refine aw_skip ?_ | refine aw_exit ?_ | (with_reducible first | refine then_x ?_ | refine then_r ?_ | refine block_x ?_ | refine block_n ?_ | refine block_r ?_) | refine aw_ret ?_
  refine aw_loop (α := { p : Nat × Nat // p.1 ≤ p.2 ∧ p.2 ≤ A.length ∧ (∀ z, 0 < p.1 → A[p.1 - 1]? = some z → leW z x) ∧ (∀ z, A[p.2]? = some z → leW x z) }) (fun p => ⟨((.sl 0 0 L) :: (I P.length) :: (I m) :: (I b) :: (.fn 77 []) :: .any :: .any :: .any :: .any :: .any :: .any :: .any :: .any :: .any :: (I ((P.length + p.1.1 : Nat) : Int)) :: (I ((P.length + p.1.2 : Nat) : Int)) :: .any :: .any :: .any :: .any :: .any :: .any :: .any :: .any :: .any :: .any :: .any :: .any :: .any :: .any :: .any :: .any :: .any :: .any :: .any :: .any :: .any :: .any :: .any :: .any :: .any :: .any :: .any :: .any :: .any :: .any :: .any :: .any :: .any :: .any :: .any :: .any :: .any :: .any :: .any :: .any :: .any :: .any :: .any :: .any :: .any :: .any :: .any :: .any :: .any :: .any :: .any :: .any :: .any :: .any :: .any :: .any :: .any :: .any :: .any :: .any :: .any :: .any :: .any :: .any :: .any :: .any :: .any :: .any :: .any :: .any :: .any :: .any :: .any :: .any :: .any :: .any :: .any :: .any :: .any :: .any :: .any :: .any :: .any :: .any :: .any :: .any :: .any :: .any :: .any :: .any :: .any :: .any :: .any :: .any :: .any :: .any :: .any :: .any :: .any :: .any :: .any :: .any :: .any :: .any :: .any :: .any :: .any :: .any :: .any :: .any :: .any :: .any :: .any :: .any :: .any :: .any :: .any :: .any :: .any :: .any :: .any :: .any :: .any :: .any :: .any :: .any :: .any :: .any :: .any :: .any :: .any :: .any :: .any :: .any :: .any :: .any :: .any :: .any :: .any :: .any :: .any :: .any :: .any :: .any :: .any :: .any :: .any :: .any :: .any :: .any :: .any :: .any :: .any :: .any :: .any :: .any :: .any :: .any :: .any :: .any :: .any :: .any :: .any :: .any :: .any :: .any :: .any :: .any :: .any :: .any :: .any :: .any :: .any :: .any :: .any :: .any :: .any :: .any :: .any :: .any :: .any :: .any :: .any :: .any :: .any :: .any :: .any :: .any :: .any :: .any :: .any :: .any :: .any :: .any :: .any :: .any :: .any :: .any :: .any :: .any :: .any :: .any :: .any :: .any :: []), [rwR (P ++ A ++ [x] ++ Q)], 1⟩) (fun p => p.1.2 - p.1.1) ⟨(0, A.length), Nat.zero_le _, Nat.le_refl _, fun _ h => absurd h (Nat.lt_irrefl 0), fun z hz => absurd (List.getElem?_eq_some_iff.1 hz).1 (Nat.lt_irrefl _)⟩ ?_ ?_
  · exact subm 1 [0] rfl rfl fix1 (by decide) (.cons rfl rfl rfl rfl (les_refl (flat_noH _ _)) .nil) (by
          repeat' first | exact les_nil | refine les_cons ?_ ?_ | exact le_any | exact le_refl rfl | exact le_sl rfl rfl | exact le_k (congrArg _ (show ((P.length + A.length : Nat) : Int) = (m : Int) by omega)))
  · rintro ⟨⟨i, j⟩, hij, hj, hlo, hhi⟩
    simp only at hij hj hlo hhi
    repeat' first | refine aw_seq ?_ | refine aw_region ?_ | refine aw_lex [] ?_ | (refine isA ?_; refine do_F rfl ?_) | (refine isL ?_; refine lex_F rfl (by kernel_rfl) rfl rfl ?_) | (refine isLg rfl ?_; refine lex_S rfl (by kernel_rfl) rfl rfl ?_) | refine aops_nil ?_ | refine lex_done _ rfl (by kernel_rfl) ?_ | refine aw_ct rfl ?_ | refine aw_cf rfl ?_ | refine aw_block ?_ | with_reducible refine then_n ?_ | refine aw_skip ?_ | refine aw_exit ?_ | (with_reducible first | refine then_x ?_ | refine then_r ?_ | refine block_x ?_ | refine block_n ?_ | refine block_r ?_) | refine aw_ret ?_
    refine aw_cond rfl (fun h => ?_) (fun h => ?_)
    · have hlt : i < j := by have := of_decide_eq_true h; simp only at this; omega
      obtain ⟨k, hk⟩ : ∃ k, k = (i + j) / 2 := ⟨_, rfl⟩
      have k1 : i ≤ k ∧ k < j := by omega
      have hv : IntKind.i64.wrap (bShr .u64 (IntKind.u64.wrap (IntKind.i64.wrap (((P.length + i : Nat) : Int) + ((P.length + j : Nat) : Int)))) 1) = ((P.length + k : Nat) : Int) := by
        rw [half_val (by omega)]; omega
      obtain ⟨y, hy⟩ : ∃ z, A[k]? = some z := ⟨_, List.getElem?_eq_getElem (by omega)⟩
      have gy : (P ++ A ++ [x] ++ Q)[0 + (P.length + k)]? = some y := by
        rw [List.append_assoc, List.getElem?_append_left (by omega), List.getElem?_append_right (by omega), show 0 + (P.length + k) - P.length = k by omega]; exact hy
      have gx : (P ++ A ++ [x] ++ Q)[0 + m]? = some x := by
        rw [List.append_assoc, List.getElem?_append_right (by omega), hm, show 0 + m - m = 0 by omega]; rfl
      repeat' first | refine aw_seq ?_ | refine aw_region ?_ | refine aw_lex [] ?_ | (refine isA ?_; refine do_F rfl ?_) | (refine isL ?_; refine lex_F rfl (by kernel_rfl) rfl rfl ?_) | (refine isLg rfl ?_; refine lex_S rfl (by kernel_rfl) rfl rfl ?_) | refine do_R rfl (step_shr (n := 1) rfl rfl rfl) rfl ?_ | refine lex_R rfl (by kernel_rfl) rfl (step_shr (n := 1) rfl rfl rfl) rfl ?_ | (refine isAi (x := .tmp 97) ?_; refine do_R rfl (step_ia_sl (j := ((P.length + k : Nat) : Int)) rfl rfl rfl (Nat.zero_le _) rfl (congrArg I hv) (Int.natCast_nonneg _) (by omega)) rfl ?_) | (refine isLi (x := .tmp 97) rfl ?_; refine lex_R rfl (by kernel_rfl) rfl (step_ia_sl (j := ((P.length + k : Nat) : Int)) rfl rfl rfl (Nat.zero_le _) rfl (congrArg I hv) (Int.natCast_nonneg _) (by omega)) rfl ?_) | (refine isAi (x := .tmp 93) ?_; refine do_R rfl (step_ia_sl (j := (m : Int)) rfl rfl rfl (Nat.zero_le _) rfl rfl (Int.natCast_nonneg _) (by omega)) rfl ?_) | (refine isLi (x := .tmp 93) rfl ?_; refine lex_R rfl (by kernel_rfl) rfl (step_ia_sl (j := (m : Int)) rfl rfl rfl (Nat.zero_le _) rfl rfl (Int.natCast_nonneg _) (by omega)) rfl ?_) | (refine isAl (x := .tmp 99) ?_; refine do_R rfl (ld_a (T := rwT) (i := 0 + (P.length + k)) (z := y) rfl rfl rfl gy) rfl ?_) | (refine isLl (x := .tmp 99) rfl ?_; refine lex_R rfl (by kernel_rfl) rfl (ld_a (T := rwT) (i := 0 + (P.length + k)) (z := y) rfl rfl rfl gy) rfl ?_) | (refine isAl (x := .tmp 95) ?_; refine do_R rfl (ld_a (T := rwT) (i := 0 + m) (z := x) rfl rfl rfl gx) rfl ?_) | (refine isLl (x := .tmp 95) rfl ?_; refine lex_R rfl (by kernel_rfl) rfl (ld_a (T := rwT) (i := 0 + m) (z := x) rfl rfl rfl gx) rfl ?_) | refine do_R rfl (st_callV rfl rfl (c_icmp x y) (.cons (.same rfl) (.cons (.same rfl) .nil)) rfl) rfl ?_ | refine lex_R rfl (by kernel_rfl) rfl (st_callV rfl rfl (c_icmp x y) (.cons (.same rfl) (.cons (.same rfl) .nil)) rfl) rfl ?_ | refine aops_nil ?_ | refine lex_done _ rfl (by kernel_rfl) ?_ | refine aw_ct rfl ?_ | refine aw_cf rfl ?_ | refine aw_block ?_ | with_reducible refine then_n ?_ | refine aw_skip ?_ | refine aw_exit ?_ | (with_reducible first | refine then_x ?_ | refine then_r ?_ | refine block_x ?_ | refine block_n ?_ | refine block_r ?_) | refine aw_ret ?_
      refine aw_cond rfl (fun p => ?_) (fun p => ?_)
      · have p' : decide (cmpV x y < 0) = false := by simpa using p
        have q : leW y x := Classical.byContradiction fun hn => absurd (cmp_neg.2 hn) (of_decide_eq_false p')
        repeat' first | refine aw_seq ?_ | refine aw_region ?_ | refine aw_lex [] ?_ | (refine isA ?_; refine do_F rfl ?_) | (refine isL ?_; refine lex_F rfl (by kernel_rfl) rfl rfl ?_) | (refine isLg rfl ?_; refine lex_S rfl (by kernel_rfl) rfl rfl ?_) | refine aops_nil ?_ | refine lex_done _ rfl (by kernel_rfl) ?_ | refine aw_ct rfl ?_ | refine aw_cf rfl ?_ | refine aw_block ?_ | with_reducible refine then_n ?_ | refine aw_skip ?_ | refine aw_exit ?_ | (with_reducible first | refine then_x ?_ | refine then_r ?_ | refine block_x ?_ | refine block_n ?_ | refine block_r ?_) | refine aw_ret ?_
        refine ⟨⟨(k + 1, j), by simp only; omega, hj, fun z _ hz => by simp only [Nat.add_sub_cancel] at hz; rw [hy] at hz; cases hz; exact q, hhi⟩, by simp only; omega, ?_⟩
        exact subm 1 [0] rfl rfl fix1 (by decide) (.cons rfl rfl rfl rfl (les_refl (flat_noH _ _)) .nil) (by
          repeat' first | exact les_nil | refine les_cons ?_ ?_ | exact le_any | exact le_refl rfl | exact le_sl rfl rfl | exact le_k (congrArg _ (show ((P.length + (k + 1) : Nat) : Int) = IntKind.i64.wrap (IntKind.i64.wrap (bShr .u64 (IntKind.u64.wrap (IntKind.i64.wrap (((P.length + i : Nat) : Int) + ((P.length + j : Nat) : Int)))) 1) + 1) by rw [hv, IntKind.wrap_i64]; omega)))
      · have p' : decide (cmpV x y < 0) = true := by simpa using p
        have q := leW_not (cmp_neg.1 (of_decide_eq_true p'))
        repeat' first | refine aw_seq ?_ | refine aw_region ?_ | refine aw_lex [] ?_ | (refine isA ?_; refine do_F rfl ?_) | (refine isL ?_; refine lex_F rfl (by kernel_rfl) rfl rfl ?_) | (refine isLg rfl ?_; refine lex_S rfl (by kernel_rfl) rfl rfl ?_) | refine aops_nil ?_ | refine lex_done _ rfl (by kernel_rfl) ?_ | refine aw_ct rfl ?_ | refine aw_cf rfl ?_ | refine aw_block ?_ | with_reducible refine then_n ?_ | refine aw_skip ?_ | refine aw_exit ?_ | (with_reducible first | refine then_x ?_ | refine then_r ?_ | refine block_x ?_ | refine block_n ?_ | refine block_r ?_) | refine aw_ret ?_
        refine ⟨⟨(i, k), k1.1, by simp only; omega, hlo, fun z hz => by rw [hy] at hz; cases hz; exact q⟩, by simp only; omega, ?_⟩
        exact subm 1 [0] rfl rfl fix1 (by decide) (.cons rfl rfl rfl rfl (les_refl (flat_noH _ _)) .nil) (by
          repeat' first | exact les_nil | refine les_cons ?_ ?_ | exact le_any | exact le_refl rfl | exact le_sl rfl rfl | exact le_k (congrArg _ hv.symm))
    · have e : i = j := by have := of_decide_eq_false h; simp only at this; omega
      subst e
      have hfin := srt_back hA hj hlo hhi
      repeat' first | refine aw_seq ?_ | refine aw_region ?_ | refine aw_lex [] ?_ | (refine isA ?_; refine do_F rfl ?_) | (refine isL ?_; refine lex_F rfl (by kernel_rfl) rfl rfl ?_) | (refine isLg rfl ?_; refine lex_S rfl (by kernel_rfl) rfl rfl ?_) | refine aops_nil ?_ | refine lex_done _ rfl (by kernel_rfl) ?_ | refine aw_ct rfl ?_ | refine aw_cf rfl ?_ | refine aw_block ?_ | with_reducible refine then_n ?_ | refine aw_skip ?_ | refine aw_exit ?_ | (with_reducible first | refine then_x ?_ | refine then_r ?_ | refine block_x ?_ | refine block_n ?_ | refine block_r ?_) | refine aw_ret ?_
      refine aw_loop (α := { t : Nat // i ≤ t ∧ t ≤ A.length }) (fun t => ⟨((.sl 0 0 L) :: .any :: .any :: .any :: .any :: .any :: .any :: .any :: .any :: .any :: .any :: .any :: .any :: .any :: (I ((P.length + i : Nat) : Int)) :: .any :: .any :: (I ((P.length + t.1 : Nat) : Int)) :: .any :: .any :: .any :: .any :: .any :: .any :: .any :: .any :: .any :: .any :: .any :: .any :: .any :: .any :: .any :: .any :: .any :: .any :: .any :: .any :: .any :: .any :: .any :: .any :: .any :: .any :: .any :: .any :: .any :: .any :: .any :: .any :: .any :: .any :: .any :: .any :: .any :: .any :: .any :: .any :: .any :: .any :: .any :: .any :: .any :: .any :: .any :: .any :: .any :: .any :: .any :: .any :: .any :: .any :: .any :: .any :: .any :: .any :: .any :: .any :: .any :: .any :: .any :: .any :: .any :: .any :: .any :: .any :: .any :: .any :: .any :: .any :: .any :: .any :: .any :: .any :: .any :: .any :: .any :: .any :: .any :: .any :: .any :: .any :: .any :: .any :: .any :: .any :: .any :: .any :: .any :: .any :: .any :: .any :: .any :: .any :: .any :: .any :: .any :: .any :: .any :: .any :: .any :: .any :: .any :: .any :: .any :: .any :: .any :: .any :: .any :: .any :: .any :: .any :: .any :: .any :: .any :: .any :: .any :: .any :: .any :: .any :: .any :: .any :: .any :: .any :: .any :: .any :: .any :: .any :: .any :: .any :: .any :: .any :: .any :: .any :: .any :: .any :: .any :: .any :: .any :: .any :: .any :: .any :: .any :: .any :: .any :: .any :: .any :: .any :: .any :: .any :: .any :: .any :: .any :: .any :: .any :: .any :: .any :: .any :: .any :: .any :: .any :: .any :: .any :: .any :: .any :: .any :: .any :: .any :: .any :: .any :: .any :: .any :: .any :: .any :: .any :: .any :: .any :: .any :: .any :: .any :: .any :: .any :: .any :: .any :: .any :: .any :: .any :: .any :: .any :: .any :: .any :: .any :: .any :: .any :: .any :: .any :: .any :: .any :: .any :: .any :: []), [rwR (upL P A Q x t.1)], 1⟩) (fun t => t.1) ⟨A.length, hj, Nat.le_refl _⟩ ?_ ?_
      · exact subm 1 [0] rfl rfl fix1 (by decide) (.cons rfl rfl rfl rfl (les_eq (congrArg rwT.flat (by simp [upL])) (flat_noH _ _)) .nil) (by
          repeat' first | exact les_nil | refine les_cons ?_ ?_ | exact le_any | exact le_refl rfl | exact le_sl rfl rfl | exact le_k (congrArg _ (show ((P.length + A.length : Nat) : Int) = (m : Int) by omega)))
      · rintro ⟨t', ht1, ht2⟩
        repeat' first | refine aw_seq ?_ | refine aw_region ?_ | refine aw_lex [] ?_ | (refine isA ?_; refine do_F rfl ?_) | (refine isL ?_; refine lex_F rfl (by kernel_rfl) rfl rfl ?_) | (refine isLg rfl ?_; refine lex_S rfl (by kernel_rfl) rfl rfl ?_) | refine aops_nil ?_ | refine lex_done _ rfl (by kernel_rfl) ?_ | refine aw_ct rfl ?_ | refine aw_cf rfl ?_ | refine aw_block ?_ | with_reducible refine then_n ?_ | refine aw_skip ?_ | refine aw_exit ?_ | (with_reducible first | refine then_x ?_ | refine then_r ?_ | refine block_x ?_ | refine block_n ?_ | refine block_r ?_) | refine aw_ret ?_
        refine aw_cond rfl (fun q => ?_) (fun q => ?_)
        · have hlt : i < t' := by have := of_decide_eq_true q; simp only at this; omega
          obtain ⟨t, rfl⟩ : ∃ t, t' = t + 1 := ⟨t' - 1, by omega⟩
          obtain ⟨y, hy⟩ : ∃ z, A[t]? = some z := ⟨_, List.getElem?_eq_getElem (by omega)⟩
          have hL1 : upL P A Q x (t + 1) = (P ++ A.take t) ++ y :: x :: (A.drop (t + 1) ++ Q) := by rw [upL, take_snoc hy]; simp
          have hL2 : upL P A Q x t = (P ++ A.take t) ++ x :: y :: (A.drop (t + 1) ++ Q) := by rw [upL, take_drop1 hy]; rfl
          have hu : (P ++ A.take t).length = P.length + t := by simp; omega
          have ew : IntKind.i64.wrap (((P.length + (t + 1) : Nat) : Int) - 1) = ((P.length + t : Nat) : Int) := by rw [IntKind.wrap_i64]; omega
          have g0 : (upL P A Q x (t + 1))[0 + (P.length + t)]? = some y := by rw [hL1, List.getElem?_append_right (by omega), hu, show 0 + (P.length + t) - (P.length + t) = 0 by omega]; rfl
          have g1 : (upL P A Q x (t + 1))[0 + (P.length + t + 1)]? = some x := by rw [hL1, List.getElem?_append_right (by omega), hu, show 0 + (P.length + t + 1) - (P.length + t) = 1 by omega]; rfl
          repeat' first | refine aw_seq ?_ | refine aw_region ?_ | (refine isA ?_; refine do_F rfl ?_) | (refine isL ?_; refine lex_F rfl (by kernel_rfl) rfl rfl ?_) | (refine isLg rfl ?_; refine lex_S rfl (by kernel_rfl) rfl rfl ?_) | refine aops_nil ?_ | refine lex_done _ rfl (by kernel_rfl) ?_ | refine aw_ct rfl ?_ | refine aw_cf rfl ?_ | refine aw_block ?_ | with_reducible refine then_n ?_ | refine aw_skip ?_ | refine aw_exit ?_ | (with_reducible first | refine then_x ?_ | refine then_r ?_ | refine block_x ?_ | refine block_n ?_ | refine block_r ?_) | refine aw_ret ?_
          refine aw_per [15, 17] 18 rfl ?_
          refine per_P 0 rfl (by kernel_rfl) rfl (fun _ => rfl) rfl ?_
          refine per_P 1 rfl (by kernel_rfl) rfl (fun _ => rfl) rfl ?_
          refine per_P 2 rfl (by kernel_rfl) rfl (fun _ => rfl) rfl ?_
          refine per_P 3 rfl (by kernel_rfl) rfl (fun _ => rfl) rfl ?_
          refine per_P 4 rfl (by kernel_rfl) rfl (fun _ => rfl) rfl ?_
          refine per_P 5 rfl (by kernel_rfl) rfl (fun _ => rfl) rfl ?_
          refine per_P 6 rfl (by kernel_rfl) rfl (fun _ => rfl) rfl ?_
          refine per_P 7 rfl (by kernel_rfl) rfl (fun _ => rfl) rfl ?_
          refine per_R 8 rfl (by kernel_rfl) rfl (step_ia_sl (j := ((P.length + t : Nat) : Int)) rfl rfl rfl (Nat.zero_le _) rfl (congrArg I ew) (Int.natCast_nonneg _) (by omega)) rfl ?_
          refine per_R 9 rfl (by kernel_rfl) rfl (ld_a (T := rwT) (i := 0 + (P.length + t)) (z := y) rfl rfl rfl g0) rfl ?_
          refine per_P 10 rfl (by kernel_rfl) rfl (fun _ => rfl) rfl ?_
          refine per_P 11 rfl (by kernel_rfl) rfl (fun _ => rfl) rfl ?_
          refine per_R 12 rfl (by kernel_rfl) rfl (step_ia_sl (j := ((P.length + t + 1 : Nat) : Int)) rfl rfl rfl (Nat.zero_le _) rfl rfl (Int.natCast_nonneg _) (by omega)) rfl ?_
          refine per_R 13 rfl (by kernel_rfl) rfl (ld_a (T := rwT) (i := 0 + (P.length + t + 1)) (z := x) rfl rfl rfl g1) rfl ?_
          refine per_R 14 rfl (by kernel_rfl) rfl (step_ia_sl (j := ((P.length + t + 1 : Nat) : Int)) rfl rfl rfl (Nat.zero_le _) rfl rfl (Int.natCast_nonneg _) (by omega)) rfl ?_
          refine per_W 15 rfl (by kernel_rfl) rfl rfl (set_l (T := rwT) (i := 0 + (P.length + t + 1)) (z := y) rfl rfl rfl rfl rfl (List.getElem?_eq_some_iff.1 g1).1) rfl ?_
          refine per_R 16 rfl (by kernel_rfl) rfl (step_ia_sl (j := ((P.length + t : Nat) : Int)) rfl rfl rfl (Nat.zero_le _) rfl (congrArg I ew) (Int.natCast_nonneg _) (by omega)) rfl ?_
          refine per_W 17 rfl (by kernel_rfl) rfl rfl (set_l (T := rwT) (i := 0 + (P.length + t)) (z := x) rfl rfl rfl rfl rfl (by rw [List.length_set]; exact (List.getElem?_eq_some_iff.1 g0).1)) rfl ?_
          refine per_done (by kernel_rfl) ?_
          repeat' first | refine aw_seq ?_ | refine aw_region ?_ | refine aw_lex [] ?_ | (refine isA ?_; refine do_F rfl ?_) | (refine isL ?_; refine lex_F rfl (by kernel_rfl) rfl rfl ?_) | (refine isLg rfl ?_; refine lex_S rfl (by kernel_rfl) rfl rfl ?_) | refine aops_nil ?_ | refine lex_done _ rfl (by kernel_rfl) ?_ | refine aw_ct rfl ?_ | refine aw_cf rfl ?_ | refine aw_block ?_ | with_reducible refine then_n ?_ | refine aw_skip ?_ | refine aw_exit ?_ | (with_reducible first | refine then_x ?_ | refine then_r ?_ | refine block_x ?_ | refine block_n ?_ | refine block_r ?_) | refine aw_ret ?_
          refine ⟨⟨t, by omega, by omega⟩, by simp only; omega, ?_⟩
          exact subm 1 [0] rfl rfl fix1 (by decide) (.cons rfl rfl rfl rfl (les_eq (show rwT.flat (((upL P A Q x (t + 1)).set (0 + (P.length + t + 1)) y).set (0 + (P.length + t)) x) = rwT.flat (upL P A Q x t) by rw [hL1, Nat.zero_add, Nat.zero_add, swap_at hu, hL2]) (flat_noH _ _)) .nil) (by
          repeat' first | exact les_nil | refine les_cons ?_ ?_ | exact le_any | exact le_refl rfl | exact le_sl rfl rfl | exact le_k (congrArg _ ew.symm))
        · have hge : t' = i := by have := of_decide_eq_false q; simp only at this; omega
          subst hge
          have e3 : upL P A Q x t' = P ++ srtV (A ++ [x]) ++ Q := by rw [← hfin, upL]; simp
          repeat' first | refine aw_seq ?_ | refine aw_region ?_ | refine aw_lex [] ?_ | (refine isA ?_; refine do_F rfl ?_) | (refine isL ?_; refine lex_F rfl (by kernel_rfl) rfl rfl ?_) | (refine isLg rfl ?_; refine lex_S rfl (by kernel_rfl) rfl rfl ?_) | exact finMvr 1 [0] fix1 (by decide) (.cons rfl rfl rfl rfl (les_eq (congrArg rwT.flat e3) (flat_noH _ _)) .nil) | refine aops_nil ?_ | refine lex_done _ rfl (by kernel_rfl) ?_ | refine aw_ct rfl ?_ | refine aw_cf rfl ?_ | refine aw_block ?_ | with_reducible refine then_n ?_ | refine aw_skip ?_ | refine aw_exit ?_ | (with_reducible first | refine then_x ?_ | refine then_r ?_ | refine block_x ?_ | refine block_n ?_ | refine block_r ?_) | refine aw_ret ?_
end Go.Proofs.Ytkcicbigpbdjpaa.Ab.Pr

/- PaJ -/
-- BY gen_pair.py
/-
  slices.symMergeCmpFunc@Pair over rows: the middle case; all cases.
-/
namespace Go.Proofs.Ytkcicbigpbdjpaa.Ab.Pr
open Go.RowKit

/-- The paths of one 'if' are joined behind it. -/
theorem aw_joinAt {P : Program} (id : Nat) {ops : Array Oper} {b : Bool} {c y : Code} {Q : Exit → St → Prop} {S : St} (T : St) (h : AW P (.seq (.region id ops b) c) (fun e S' => e = .normal ∧ Sub T S') S) (k : AW P y Q T) : AW P (.seq (.seq (.region id ops b) c) y) Q S :=
  aw_seq ⟨fun C φ a w hI => wp_mono (h.out C φ a w hI) fun e a' w' hq => by
    obtain ⟨S', φ1, hI', he, hs⟩ := hq
    subst he
    obtain ⟨φ2, h2⟩ := hs C φ1 a' w' hI'
    exact ⟨T, φ2, h2, k⟩⟩

theorem c_rotX {ds rs : List Rw} {L : Nat} {a m b : Int} (P X Y Q : List Rw) (hd : ds = P ++ X ++ Y ++ Q) (hL : L = ds.length) (hl : L ≤ 100000000) (ha : a = (P.length : Int)) (hm : m = ((P ++ X).length : Int)) (hb : b = ((P ++ X ++ Y).length : Int)) (hx : 0 < X.length) (hy : 0 < Y.length) (hr : rs = P ++ Y ++ X ++ Q) :
    Meets Go.Proofs.Try.prog 179 [.sl 0 0 L, I a, I m, I b, .fn 77 []] [rwR ds] (.tup []) [rwR rs] true := by
  subst hd hL ha hm hb hr
  exact c_rotate P X Y Q hx hy hl
def SymC (P A B Q : List Rw) : Prop := Meets Go.Proofs.Try.prog 167 [.sl 0 0 (P ++ A ++ B ++ Q).length, I P.length, I (P ++ A).length, I (P ++ A ++ B).length, .fn 77 []] [rwR (P ++ A ++ B ++ Q)] (.tup []) [rwR (P ++ srtV (A ++ B) ++ Q)] true
theorem SymC.x {ds rs : List Rw} {L : Nat} {a m b : Int} {P A B Q : List Rw} (h : SymC P A B Q) (hd : ds = P ++ A ++ B ++ Q) (hL : L = ds.length) (ha : a = (P.length : Int)) (hm : m = ((P ++ A).length : Int)) (hb : b = ((P ++ A ++ B).length : Int)) (hr : rs = P ++ srtV (A ++ B) ++ Q) :
    Meets Go.Proofs.Try.prog 167 [.sl 0 0 L, I a, I m, I b, .fn 77 []] [rwR ds] (.tup []) [rwR rs] true := by
  subst hd hL ha hm hb hr
  exact h
theorem srt_cases {A B : List Rw} (hA : Srt A) (hB : Srt B) (h : A.length = 0 ∨ B.length = 0) : A ++ B = srtV (A ++ B) := by
  rcases h with h | h
  · rw [List.eq_nil_of_length_eq_zero h, List.nil_append, srtV_id hB]
  · rw [List.eq_nil_of_length_eq_zero h, List.append_nil, srtV_id hA]

theorem c_symM (P A B Q : List Rw) (hA : Srt A) (hB : Srt B) (h0 : 2 ≤ A.length) (h1 : 2 ≤ B.length) (hl : (P ++ A ++ B ++ Q).length ≤ 100000000)
    (IH : ∀ P' A' B' Q', A'.length + B'.length < A.length + B.length → Srt A' → Srt B' → 0 < A'.length → 0 < B'.length → (P' ++ A' ++ B' ++ Q').length ≤ 100000000 → SymC P' A' B' Q') : SymC P A B Q := by
  unfold SymC
  have l1 : (P ++ A).length = P.length + A.length := by simp
  have l2 : (P ++ A ++ B).length = P.length + A.length + B.length := by simp; omega
  have l3 : (P ++ A ++ B ++ Q).length = P.length + A.length + B.length + Q.length := by simp; omega
  obtain ⟨w, hw⟩ : ∃ w, w = (A.length + B.length) / 2 := ⟨_, rfl⟩
  have hds : ∀ k x, A[k]? = some x → (P ++ A ++ B ++ Q)[0 + (P.length + k)]? = some x := fun k x hx => by
    have := (List.getElem?_eq_some_iff.1 hx).1
    rw [List.getElem?_append_left (by omega), List.getElem?_append_left (by omega), List.getElem?_append_right (by omega), show 0 + (P.length + k) - P.length = k by omega]; exact hx
  have hdb : ∀ k x, B[k]? = some x → (P ++ A ++ B ++ Q)[0 + (P.length + A.length + k)]? = some x := fun k x hx => by
    have := (List.getElem?_eq_some_iff.1 hx).1
    rw [List.getElem?_append_left (by omega), List.getElem?_append_right (by omega), l1, show 0 + (P.length + A.length + k) - (P.length + A.length) = k by omega]; exact hx
  have eds : P ++ A ++ B ++ Q = P ++ A ++ B ++ Q := rfl
  generalize hm : (P ++ A).length = m at l1 ⊢
  generalize hb : (P ++ A ++ B).length = b at l2 ⊢
  generalize hL : (P ++ A ++ B ++ Q).length = L at hl l3 ⊢
  generalize hD : P ++ A ++ B ++ Q = D at hds hdb hL ⊢
  generalize ha : P.length = a at hds hdb l1 l2 l3 ⊢
  have hv : IntKind.i64.wrap (bShr .u64 (IntKind.u64.wrap (IntKind.i64.wrap ((a : Int) + (b : Int)))) 1) = ((a + w : Nat) : Int) := by rw [half_val (by omega)]; omega
  refine meets_of [] Go.Proofs.Try.func167 rfl rfl ?_
  simp only [Go.Proofs.Try.ntmps167, List.length_cons, List.length_nil, Nat.reduceAdd, Nat.reduceSub, List.replicate_succ, List.replicate_zero, List.cons_append, List.nil_append]
  repeat' first | refine aw_seq ?_ | refine aw_region ?_ | refine aw_lex [] ?_ | (refine isA ?_; refine do_F rfl ?_) | (refine isL ?_; refine lex_F rfl (by kernel_rfl) rfl rfl ?_) | (refine isLg rfl ?_; refine lex_S rfl (by kernel_rfl) rfl rfl ?_) | refine aops_nil ?_ | refine lex_done _ rfl (by kernel_rfl) ?_ | refine aw_ct rfl ?_ | refine aw_cf rfl ?_ | refine aw_block ?_ | with_reducible refine then_n ?_ | refine aw_skip ?_ | refine aw_exit ?_ | (with_reducible first | refine then_x ?_ | refine then_r ?_ | refine block_x ?_ | refine block_n ?_ | refine block_r ?_) | refine aw_ret ?_
  refine aw_cond rfl (fun h => absurd (of_decide_eq_true h) (by rw [IntKind.wrap_i64]; omega)) (fun _ => ?_)
  repeat' first | refine aw_seq ?_ | refine aw_region ?_ | refine aw_lex [] ?_ | (refine isA ?_; refine do_F rfl ?_) | (refine isL ?_; refine lex_F rfl (by kernel_rfl) rfl rfl ?_) | (refine isLg rfl ?_; refine lex_S rfl (by kernel_rfl) rfl rfl ?_) | refine aops_nil ?_ | refine lex_done _ rfl (by kernel_rfl) ?_ | refine aw_ct rfl ?_ | refine aw_cf rfl ?_ | refine aw_block ?_ | with_reducible refine then_n ?_ | refine aw_skip ?_ | refine aw_exit ?_ | (with_reducible first | refine then_x ?_ | refine then_r ?_ | refine block_x ?_ | refine block_n ?_ | refine block_r ?_) | refine aw_ret ?_
  refine aw_cond rfl (fun h => absurd (of_decide_eq_true h) (by rw [IntKind.wrap_i64]; omega)) (fun _ => ?_)
  repeat' first | (refine aw_joinAt 27 ⟨((.sl 0 0 L) :: (I a) :: (I m) :: (I b) :: (.fn 77 []) :: .any :: .any :: .any :: .any :: .any :: .any :: .any :: .any :: .any :: .any :: .any :: .any :: .any :: (I ((a + w : Nat) : Int)) :: (I ((a + w + m : Nat) : Int)) :: (I ((a + (w - B.length) : Nat) : Int)) :: (I ((a + min A.length w : Nat) : Int)) :: .any :: .any :: .any :: .any :: .any :: .any :: .any :: .any :: .any :: .any :: .any :: .any :: .any :: .any :: .any :: .any :: .any :: .any :: .any :: .any :: .any :: .any :: .any :: .any :: .any :: .any :: .any :: .any :: .any :: .any :: .any :: .any :: .any :: .any :: .any :: .any :: .any :: .any :: .any :: .any :: .any :: .any :: .any :: .any :: .any :: .any :: .any :: .any :: .any :: .any :: .any :: .any :: .any :: .any :: .any :: .any :: .any :: .any :: .any :: .any :: .any :: .any :: .any :: .any :: .any :: .any :: .any :: .any :: .any :: .any :: .any :: .any :: .any :: .any :: .any :: .any :: .any :: .any :: .any :: .any :: .any :: .any :: .any :: .any :: .any :: .any :: .any :: .any :: .any :: .any :: .any :: .any :: .any :: .any :: .any :: .any :: .any :: .any :: .any :: .any :: .any :: .any :: .any :: .any :: .any :: .any :: .any :: .any :: .any :: .any :: .any :: .any :: .any :: .any :: .any :: .any :: .any :: .any :: .any :: .any :: .any :: .any :: .any :: .any :: .any :: .any :: .any :: .any :: .any :: .any :: .any :: .any :: .any :: .any :: .any :: .any :: .any :: .any :: .any :: .any :: .any :: .any :: .any :: .any :: .any :: .any :: .any :: .any :: .any :: .any :: .any :: .any :: .any :: .any :: .any :: .any :: .any :: .any :: .any :: .any :: .any :: .any :: .any :: .any :: .any :: .any :: .any :: .any :: .any :: .any :: .any :: .any :: .any :: .any :: .any :: .any :: .any :: .any :: .any :: .any :: .any :: .any :: .any :: .any :: .any :: .any :: .any :: .any :: .any :: .any :: .any :: .any :: .any :: .any :: .any :: .any :: .any :: .any :: []), [rwR D], 1⟩ ?_ ?_) | refine aw_seq ?_ | refine aw_region ?_ | refine aw_lex [] ?_ | (refine isA ?_; refine do_F rfl ?_) | (refine isL ?_; refine lex_F rfl (by kernel_rfl) rfl rfl ?_) | (refine isLg rfl ?_; refine lex_S rfl (by kernel_rfl) rfl rfl ?_) | refine do_R rfl (step_shr (n := 1) rfl rfl rfl) rfl ?_ | refine lex_R rfl (by kernel_rfl) rfl (step_shr (n := 1) rfl rfl rfl) rfl ?_ | refine aops_nil ?_ | refine lex_done _ rfl (by kernel_rfl) ?_ | refine aw_ct rfl ?_ | refine aw_cf rfl ?_ | refine aw_block ?_ | with_reducible refine then_n ?_ | refine aw_skip ?_ | refine aw_exit ?_ | (with_reducible first | refine then_x ?_ | refine then_r ?_ | refine block_x ?_ | refine block_n ?_ | refine block_r ?_) | refine aw_ret ?_
  · have lk : ∀ x y z : Int, (x = ((a + w : Nat) : Int)) → y = ((a + w + m : Nat) : Int) → True := fun _ _ _ _ _ => trivial
    refine aw_cond rfl (fun h => ?_) (fun h => ?_)
    · have q : a + w < m := by have := of_decide_eq_true h; simp only [hv] at this; omega
      repeat' first | refine aw_seq ?_ | refine aw_region ?_ | refine aw_lex [] ?_ | (refine isA ?_; refine do_F rfl ?_) | (refine isL ?_; refine lex_F rfl (by kernel_rfl) rfl rfl ?_) | (refine isLg rfl ?_; refine lex_S rfl (by kernel_rfl) rfl rfl ?_) | refine aops_nil ?_ | refine lex_done _ rfl (by kernel_rfl) ?_ | refine aw_ct rfl ?_ | refine aw_cf rfl ?_ | refine aw_block ?_ | with_reducible refine then_n ?_ | refine aw_skip ?_ | refine aw_exit ?_ | (with_reducible first | refine then_x ?_ | refine then_r ?_ | refine block_x ?_ | refine block_n ?_ | refine block_r ?_) | refine aw_ret ?_
      refine ⟨rfl, subm 1 [0] rfl rfl fix1 (by decide) (.cons rfl rfl rfl rfl (les_refl (flat_noH _ _)) .nil) (by
        repeat' first | exact les_nil | refine les_cons ?_ ?_ | exact le_any | exact le_refl rfl | exact le_sl rfl rfl | exact le_k (congrArg _ hv.symm) | exact le_k (congrArg _ (show ((a + w + m : Nat) : Int) = IntKind.i64.wrap (IntKind.i64.wrap (bShr .u64 (IntKind.u64.wrap (IntKind.i64.wrap ((a : Int) + (b : Int)))) 1) + m) by rw [hv, IntKind.wrap_i64]; omega)) | exact le_k (congrArg _ (show ((a + (w - B.length) : Nat) : Int) = IntKind.i64.wrap (IntKind.i64.wrap (IntKind.i64.wrap (bShr .u64 (IntKind.u64.wrap (IntKind.i64.wrap ((a : Int) + (b : Int)))) 1) + m) - b) by rw [hv, show IntKind.i64.wrap (((a + w : Nat) : Int) + m) = ((a + w + m : Nat) : Int) by rw [IntKind.wrap_i64]; omega, IntKind.wrap_i64]; omega)) | exact le_k (congrArg _ (show ((a + min A.length w : Nat) : Int) = IntKind.i64.wrap (bShr .u64 (IntKind.u64.wrap (IntKind.i64.wrap ((a : Int) + (b : Int)))) 1) by rw [hv, Nat.min_eq_right (by omega)])))⟩
    · have q : m ≤ a + w := by have := of_decide_eq_false h; simp only [hv] at this; omega
      repeat' first | refine aw_seq ?_ | refine aw_region ?_ | refine aw_lex [] ?_ | (refine isA ?_; refine do_F rfl ?_) | (refine isL ?_; refine lex_F rfl (by kernel_rfl) rfl rfl ?_) | (refine isLg rfl ?_; refine lex_S rfl (by kernel_rfl) rfl rfl ?_) | refine aops_nil ?_ | refine lex_done _ rfl (by kernel_rfl) ?_ | refine aw_ct rfl ?_ | refine aw_cf rfl ?_ | refine aw_block ?_ | with_reducible refine then_n ?_ | refine aw_skip ?_ | refine aw_exit ?_ | (with_reducible first | refine then_x ?_ | refine then_r ?_ | refine block_x ?_ | refine block_n ?_ | refine block_r ?_) | refine aw_ret ?_
      refine ⟨rfl, subm 1 [0] rfl rfl fix1 (by decide) (.cons rfl rfl rfl rfl (les_refl (flat_noH _ _)) .nil) (by
        repeat' first | exact les_nil | refine les_cons ?_ ?_ | exact le_any | exact le_refl rfl | exact le_sl rfl rfl | exact le_k (congrArg _ hv.symm) | exact le_k (congrArg _ (show ((a + w + m : Nat) : Int) = IntKind.i64.wrap (IntKind.i64.wrap (bShr .u64 (IntKind.u64.wrap (IntKind.i64.wrap ((a : Int) + (b : Int)))) 1) + m) by rw [hv, IntKind.wrap_i64]; omega)) | exact le_k (congrArg _ (show ((a + (w - B.length) : Nat) : Int) = (a : Int) by omega)) | exact le_k (congrArg _ (show ((a + min A.length w : Nat) : Int) = (m : Int) by rw [Nat.min_eq_left (by omega)]; omega)))⟩
  · have ep : IntKind.i64.wrap (((a + w + m : Nat) : Int) - 1) = ((a + w + m - 1 : Nat) : Int) := by rw [IntKind.wrap_i64]; omega
    refine aw_loop (α := { p : Nat × Nat // CutI A B w p }) (fun p => ⟨((.sl 0 0 L) :: (I a) :: (I m) :: (I b) :: (.fn 77 []) :: .any :: .any :: .any :: .any :: .any :: .any :: .any :: .any :: .any :: .any :: .any :: .any :: .any :: (I ((a + w : Nat) : Int)) :: (I ((a + w + m : Nat) : Int)) :: (I ((a + p.1.1 : Nat) : Int)) :: (I ((a + p.1.2 : Nat) : Int)) :: (I ((a + w + m - 1 : Nat) : Int)) :: .any :: .any :: .any :: .any :: .any :: .any :: .any :: .any :: .any :: .any :: .any :: .any :: .any :: .any :: .any :: .any :: .any :: .any :: .any :: .any :: .any :: .any :: .any :: .any :: .any :: .any :: .any :: .any :: .any :: .any :: .any :: .any :: .any :: .any :: .any :: .any :: .any :: .any :: .any :: .any :: .any :: .any :: .any :: .any :: .any :: .any :: .any :: .any :: .any :: .any :: .any :: .any :: .any :: .any :: .any :: .any :: .any :: .any :: .any :: .any :: .any :: .any :: .any :: .any :: .any :: .any :: .any :: .any :: .any :: .any :: .any :: .any :: .any :: .any :: .any :: .any :: .any :: .any :: .any :: .any :: .any :: .any :: .any :: .any :: .any :: .any :: .any :: .any :: .any :: .any :: .any :: .any :: .any :: .any :: .any :: .any :: .any :: .any :: .any :: .any :: .any :: .any :: .any :: .any :: .any :: .any :: .any :: .any :: .any :: .any :: .any :: .any :: .any :: .any :: .any :: .any :: .any :: .any :: .any :: .any :: .any :: .any :: .any :: .any :: .any :: .any :: .any :: .any :: .any :: .any :: .any :: .any :: .any :: .any :: .any :: .any :: .any :: .any :: .any :: .any :: .any :: .any :: .any :: .any :: .any :: .any :: .any :: .any :: .any :: .any :: .any :: .any :: .any :: .any :: .any :: .any :: .any :: .any :: .any :: .any :: .any :: .any :: .any :: .any :: .any :: .any :: .any :: .any :: .any :: .any :: .any :: .any :: .any :: .any :: .any :: .any :: .any :: .any :: .any :: .any :: .any :: .any :: .any :: .any :: .any :: .any :: .any :: .any :: .any :: .any :: .any :: .any :: .any :: .any :: .any :: .any :: .any :: []), [rwR D], 1⟩) (fun p => p.1.2 - p.1.1) ⟨(w - B.length, min A.length w), cut0 hw⟩ ?_ ?_
    · exact subm 1 [0] rfl rfl fix1 (by decide) (.cons rfl rfl rfl rfl (les_refl (flat_noH _ _)) .nil) (by
        repeat' first | exact les_nil | refine les_cons ?_ ?_ | exact le_any | exact le_refl rfl | exact le_sl rfl rfl | exact le_k (congrArg _ ep.symm))
    · rintro ⟨⟨i, j⟩, J⟩
      have j1 : w - B.length ≤ i := J.lo
      have j2 : i ≤ j := J.le
      have j3 : j ≤ min A.length w := J.hi
      repeat' first | refine aw_seq ?_ | refine aw_region ?_ | refine aw_lex [] ?_ | (refine isA ?_; refine do_F rfl ?_) | (refine isL ?_; refine lex_F rfl (by kernel_rfl) rfl rfl ?_) | (refine isLg rfl ?_; refine lex_S rfl (by kernel_rfl) rfl rfl ?_) | refine aops_nil ?_ | refine lex_done _ rfl (by kernel_rfl) ?_ | refine aw_ct rfl ?_ | refine aw_cf rfl ?_ | refine aw_block ?_ | with_reducible refine then_n ?_ | refine aw_skip ?_ | refine aw_exit ?_ | (with_reducible first | refine then_x ?_ | refine then_r ?_ | refine block_x ?_ | refine block_n ?_ | refine block_r ?_) | refine aw_ret ?_
      refine aw_cond rfl (fun h => ?_) (fun h => ?_)
      · have hlt : i < j := by have := of_decide_eq_true h; simp only at this; omega
        obtain ⟨k, hk⟩ : ∃ k, k = (i + j) / 2 := ⟨_, rfl⟩
        have k1 : i ≤ k ∧ k < j := by omega
        have hc : IntKind.i64.wrap (bShr .u64 (IntKind.u64.wrap (IntKind.i64.wrap (((a + i : Nat) : Int) + ((a + j : Nat) : Int)))) 1) = ((a + k : Nat) : Int) := by
          rw [half_val (by omega)]; omega
        have hpc : IntKind.i64.wrap (((a + w + m - 1 : Nat) : Int) - IntKind.i64.wrap (bShr .u64 (IntKind.u64.wrap (IntKind.i64.wrap (((a + i : Nat) : Int) + ((a + j : Nat) : Int)))) 1)) = ((a + A.length + (w - 1 - k) : Nat) : Int) := by
          rw [hc, IntKind.wrap_i64]; omega
        obtain ⟨x, hx⟩ : ∃ z, A[k]? = some z := ⟨_, List.getElem?_eq_getElem (by omega)⟩
        obtain ⟨y, hy⟩ : ∃ z, B[w - 1 - k]? = some z := ⟨_, List.getElem?_eq_getElem (by omega)⟩
        have gx := hds k x hx
        have gy := hdb (w - 1 - k) y hy
        repeat' first | refine aw_seq ?_ | refine aw_region ?_ | refine aw_lex [] ?_ | (refine isA ?_; refine do_F rfl ?_) | (refine isL ?_; refine lex_F rfl (by kernel_rfl) rfl rfl ?_) | (refine isLg rfl ?_; refine lex_S rfl (by kernel_rfl) rfl rfl ?_) | refine do_R rfl (step_shr (n := 1) rfl rfl rfl) rfl ?_ | refine lex_R rfl (by kernel_rfl) rfl (step_shr (n := 1) rfl rfl rfl) rfl ?_ | (refine isAi (x := .tmp 159) ?_; refine do_R rfl (step_ia_sl (j := ((a + A.length + (w - 1 - k) : Nat) : Int)) rfl rfl rfl (Nat.zero_le _) rfl (congrArg I hpc) (Int.natCast_nonneg _) (by omega)) rfl ?_) | (refine isLi (x := .tmp 159) rfl ?_; refine lex_R rfl (by kernel_rfl) rfl (step_ia_sl (j := ((a + A.length + (w - 1 - k) : Nat) : Int)) rfl rfl rfl (Nat.zero_le _) rfl (congrArg I hpc) (Int.natCast_nonneg _) (by omega)) rfl ?_) | (refine isAi (x := .tmp 165) ?_; refine do_R rfl (step_ia_sl (j := ((a + k : Nat) : Int)) rfl rfl rfl (Nat.zero_le _) rfl (congrArg I hc) (Int.natCast_nonneg _) (by omega)) rfl ?_) | (refine isLi (x := .tmp 165) rfl ?_; refine lex_R rfl (by kernel_rfl) rfl (step_ia_sl (j := ((a + k : Nat) : Int)) rfl rfl rfl (Nat.zero_le _) rfl (congrArg I hc) (Int.natCast_nonneg _) (by omega)) rfl ?_) | (refine isAl (x := .tmp 163) ?_; refine do_R rfl (ld_a (T := rwT) (i := 0 + (a + A.length + (w - 1 - k))) (z := y) rfl rfl rfl gy) rfl ?_) | (refine isLl (x := .tmp 163) rfl ?_; refine lex_R rfl (by kernel_rfl) rfl (ld_a (T := rwT) (i := 0 + (a + A.length + (w - 1 - k))) (z := y) rfl rfl rfl gy) rfl ?_) | (refine isAl (x := .tmp 167) ?_; refine do_R rfl (ld_a (T := rwT) (i := 0 + (a + k)) (z := x) rfl rfl rfl gx) rfl ?_) | (refine isLl (x := .tmp 167) rfl ?_; refine lex_R rfl (by kernel_rfl) rfl (ld_a (T := rwT) (i := 0 + (a + k)) (z := x) rfl rfl rfl gx) rfl ?_) | refine do_R rfl (st_callV rfl rfl (c_icmp y x) (.cons (.same rfl) (.cons (.same rfl) .nil)) rfl) rfl ?_ | refine lex_R rfl (by kernel_rfl) rfl (st_callV rfl rfl (c_icmp y x) (.cons (.same rfl) (.cons (.same rfl) .nil)) rfl) rfl ?_ | refine aops_nil ?_ | refine lex_done _ rfl (by kernel_rfl) ?_ | refine aw_ct rfl ?_ | refine aw_cf rfl ?_ | refine aw_block ?_ | with_reducible refine then_n ?_ | refine aw_skip ?_ | refine aw_exit ?_ | (with_reducible first | refine then_x ?_ | refine then_r ?_ | refine block_x ?_ | refine block_n ?_ | refine block_r ?_) | refine aw_ret ?_
        refine aw_cond rfl (fun p => ?_) (fun p => ?_)
        · have q : leW x y := Classical.byContradiction fun hn => by
            have := cmp_neg.2 hn
            simp [this] at p
          repeat' first | refine aw_seq ?_ | refine aw_region ?_ | refine aw_lex [] ?_ | (refine isA ?_; refine do_F rfl ?_) | (refine isL ?_; refine lex_F rfl (by kernel_rfl) rfl rfl ?_) | (refine isLg rfl ?_; refine lex_S rfl (by kernel_rfl) rfl rfl ?_) | refine aops_nil ?_ | refine lex_done _ rfl (by kernel_rfl) ?_ | refine aw_ct rfl ?_ | refine aw_cf rfl ?_ | refine aw_block ?_ | with_reducible refine then_n ?_ | refine aw_skip ?_ | refine aw_exit ?_ | (with_reducible first | refine then_x ?_ | refine then_r ?_ | refine block_x ?_ | refine block_n ?_ | refine block_r ?_) | refine aw_ret ?_
          refine ⟨⟨(k + 1, j), ⟨by simp only; omega, by simp only; omega, j3, fun x' y' _ hx' hy' => ?_, J.hhi⟩⟩, by simp only; omega, ?_⟩
          · simp only [Nat.add_sub_cancel] at hx'
            rw [hx] at hx'
            cases hx'
            rw [show w - (k + 1, j).1 = w - 1 - k by simp only; omega, hy] at hy'
            cases hy'
            exact q
          · exact subm 1 [0] rfl rfl fix1 (by decide) (.cons rfl rfl rfl rfl (les_refl (flat_noH _ _)) .nil) (by
              repeat' first | exact les_nil | refine les_cons ?_ ?_ | exact le_any | exact le_refl rfl | exact le_sl rfl rfl | exact le_k (congrArg _ (show ((a + (k + 1) : Nat) : Int) = IntKind.i64.wrap (IntKind.i64.wrap (bShr .u64 (IntKind.u64.wrap (IntKind.i64.wrap (((a + i : Nat) : Int) + ((a + j : Nat) : Int)))) 1) + 1) by rw [hc, IntKind.wrap_i64]; omega)))
        · have q : leW y x := leW_not (cmp_neg.1 (by simpa using p))
          repeat' first | refine aw_seq ?_ | refine aw_region ?_ | refine aw_lex [] ?_ | (refine isA ?_; refine do_F rfl ?_) | (refine isL ?_; refine lex_F rfl (by kernel_rfl) rfl rfl ?_) | (refine isLg rfl ?_; refine lex_S rfl (by kernel_rfl) rfl rfl ?_) | refine aops_nil ?_ | refine lex_done _ rfl (by kernel_rfl) ?_ | refine aw_ct rfl ?_ | refine aw_cf rfl ?_ | refine aw_block ?_ | with_reducible refine then_n ?_ | refine aw_skip ?_ | refine aw_exit ?_ | (with_reducible first | refine then_x ?_ | refine then_r ?_ | refine block_x ?_ | refine block_n ?_ | refine block_r ?_) | refine aw_ret ?_
          refine ⟨⟨(i, k), ⟨j1, k1.1, by simp only; omega, J.hlo, fun y' x' _ hy' hx' => ?_⟩⟩, by simp only; omega, ?_⟩
          · rw [hx] at hx'
            cases hx'
            rw [hy] at hy'
            cases hy'
            exact q
          · exact subm 1 [0] rfl rfl fix1 (by decide) (.cons rfl rfl rfl rfl (les_refl (flat_noH _ _)) .nil) (by
              repeat' first | exact les_nil | refine les_cons ?_ ?_ | exact le_any | exact le_refl rfl | exact le_sl rfl rfl | exact le_k (congrArg _ hc.symm))
      · obtain rfl : i = j := by have := of_decide_eq_false h; simp only at this; omega
        obtain ⟨u1, u2, u3, u4⟩ := cut_fin hw hA hB J
        have ea : A.take i ++ A.drop i = A := List.take_append_drop _ _
        have eb : B.take (w - i) ++ B.drop (w - i) = B := List.take_append_drop _ _
        have sA1 : Srt (A.take i) := hA.sublist (List.take_sublist _ _)
        have sA2 : Srt (A.drop i) := hA.sublist (List.drop_sublist _ _)
        have sB1 : Srt (B.take (w - i)) := hB.sublist (List.take_sublist _ _)
        have sB2 : Srt (B.drop (w - i)) := hB.sublist (List.drop_sublist _ _)
        have nA1 : (A.take i).length = i := by simp; omega
        have nA2 : (A.drop i).length = A.length - i := by simp
        have nB1 : (B.take (w - i)).length = w - i := by simp; omega
        have nB2 : (B.drop (w - i)).length = B.length - (w - i) := by simp
        have hD' : D = P ++ A.take i ++ A.drop i ++ B.take (w - i) ++ B.drop (w - i) ++ Q := by
          rw [← hD]; simp only [List.append_assoc]; rw [← List.append_assoc (A.take i), ea, ← List.append_assoc (B.take (w - i)), eb]
        generalize A.take i = A1 at *
        generalize A.drop i = A2 at *
        generalize B.take (w - i) = B1 at *
        generalize B.drop (w - i) = B2 at *
        have ee : IntKind.i64.wrap (((a + w + m : Nat) : Int) - ((a + i : Nat) : Int)) = ((m + (w - i) : Nat) : Int) := by rw [IntKind.wrap_i64]; omega
        have r1 : P ++ A1 ++ A2 ++ B1 ++ B2 ++ Q = P ++ A1 ++ B1 ++ A2 ++ B2 ++ Q ∨ (0 < A2.length ∧ 0 < B1.length) := by
          rcases Nat.eq_zero_or_pos A2.length with h | h
          · left; rw [List.eq_nil_of_length_eq_zero h]; simp
          · rcases Nat.eq_zero_or_pos B1.length with k | k
            · left; rw [List.eq_nil_of_length_eq_zero k]; simp
            · exact Or.inr ⟨h, k⟩
        have dl : P.length = a := ha
        have sl1 := srtV_len (A1 ++ B1)
        rw [List.length_append] at sl1
        have hLs : L = a + A1.length + A2.length + B1.length + B2.length + Q.length := by omega
        repeat' first | (refine aw_joinAt 39 ⟨((.sl 0 0 L) :: (I a) :: (I m) :: (I b) :: (.fn 77 []) :: .any :: .any :: .any :: .any :: .any :: .any :: .any :: .any :: .any :: .any :: .any :: .any :: .any :: (I ((a + w : Nat) : Int)) :: .any :: (I ((a + i : Nat) : Int)) :: .any :: .any :: .any :: (I ((m + (w - i) : Nat) : Int)) :: .any :: .any :: .any :: .any :: .any :: .any :: .any :: .any :: .any :: .any :: .any :: .any :: .any :: .any :: .any :: .any :: .any :: .any :: .any :: .any :: .any :: .any :: .any :: .any :: .any :: .any :: .any :: .any :: .any :: .any :: .any :: .any :: .any :: .any :: .any :: .any :: .any :: .any :: .any :: .any :: .any :: .any :: .any :: .any :: .any :: .any :: .any :: .any :: .any :: .any :: .any :: .any :: .any :: .any :: .any :: .any :: .any :: .any :: .any :: .any :: .any :: .any :: .any :: .any :: .any :: .any :: .any :: .any :: .any :: .any :: .any :: .any :: .any :: .any :: .any :: .any :: .any :: .any :: .any :: .any :: .any :: .any :: .any :: .any :: .any :: .any :: .any :: .any :: .any :: .any :: .any :: .any :: .any :: .any :: .any :: .any :: .any :: .any :: .any :: .any :: .any :: .any :: .any :: .any :: .any :: .any :: .any :: .any :: .any :: .any :: .any :: .any :: .any :: .any :: .any :: .any :: .any :: .any :: .any :: .any :: .any :: .any :: .any :: .any :: .any :: .any :: .any :: .any :: .any :: .any :: .any :: .any :: .any :: .any :: .any :: .any :: .any :: .any :: .any :: .any :: .any :: .any :: .any :: .any :: .any :: .any :: .any :: .any :: .any :: .any :: .any :: .any :: .any :: .any :: .any :: .any :: .any :: .any :: .any :: .any :: .any :: .any :: .any :: .any :: .any :: .any :: .any :: .any :: .any :: .any :: .any :: .any :: .any :: .any :: .any :: .any :: .any :: .any :: .any :: .any :: .any :: .any :: .any :: .any :: .any :: .any :: .any :: .any :: .any :: .any :: .any :: .any :: .any :: .any :: .any :: []), [rwR (P ++ A1 ++ B1 ++ A2 ++ B2 ++ Q)], 1⟩ ?_ ?_) | (refine aw_joinAt 41 ⟨((.sl 0 0 L) :: (I a) :: (I m) :: (I b) :: (.fn 77 []) :: .any :: .any :: .any :: .any :: .any :: .any :: .any :: .any :: .any :: .any :: .any :: .any :: .any :: (I ((a + w : Nat) : Int)) :: .any :: (I ((a + i : Nat) : Int)) :: .any :: .any :: .any :: (I ((m + (w - i) : Nat) : Int)) :: .any :: .any :: .any :: .any :: .any :: .any :: .any :: .any :: .any :: .any :: .any :: .any :: .any :: .any :: .any :: .any :: .any :: .any :: .any :: .any :: .any :: .any :: .any :: .any :: .any :: .any :: .any :: .any :: .any :: .any :: .any :: .any :: .any :: .any :: .any :: .any :: .any :: .any :: .any :: .any :: .any :: .any :: .any :: .any :: .any :: .any :: .any :: .any :: .any :: .any :: .any :: .any :: .any :: .any :: .any :: .any :: .any :: .any :: .any :: .any :: .any :: .any :: .any :: .any :: .any :: .any :: .any :: .any :: .any :: .any :: .any :: .any :: .any :: .any :: .any :: .any :: .any :: .any :: .any :: .any :: .any :: .any :: .any :: .any :: .any :: .any :: .any :: .any :: .any :: .any :: .any :: .any :: .any :: .any :: .any :: .any :: .any :: .any :: .any :: .any :: .any :: .any :: .any :: .any :: .any :: .any :: .any :: .any :: .any :: .any :: .any :: .any :: .any :: .any :: .any :: .any :: .any :: .any :: .any :: .any :: .any :: .any :: .any :: .any :: .any :: .any :: .any :: .any :: .any :: .any :: .any :: .any :: .any :: .any :: .any :: .any :: .any :: .any :: .any :: .any :: .any :: .any :: .any :: .any :: .any :: .any :: .any :: .any :: .any :: .any :: .any :: .any :: .any :: .any :: .any :: .any :: .any :: .any :: .any :: .any :: .any :: .any :: .any :: .any :: .any :: .any :: .any :: .any :: .any :: .any :: .any :: .any :: .any :: .any :: .any :: .any :: .any :: .any :: .any :: .any :: .any :: .any :: .any :: .any :: .any :: .any :: .any :: .any :: .any :: .any :: .any :: .any :: .any :: .any :: .any :: []), [rwR (P ++ srtV (A1 ++ B1) ++ A2 ++ B2 ++ Q)], 1⟩ ?_ ?_) | refine aw_seq ?_ | refine aw_region ?_ | refine aw_lex [] ?_ | (refine isA ?_; refine do_F rfl ?_) | (refine isL ?_; refine lex_F rfl (by kernel_rfl) rfl rfl ?_) | (refine isLg rfl ?_; refine lex_S rfl (by kernel_rfl) rfl rfl ?_) | refine aops_nil ?_ | refine lex_done _ rfl (by kernel_rfl) ?_ | refine aw_ct rfl ?_ | refine aw_cf rfl ?_ | refine aw_block ?_ | with_reducible refine then_n ?_ | refine aw_skip ?_ | refine aw_exit ?_ | (with_reducible first | refine then_x ?_ | refine then_r ?_ | refine block_x ?_ | refine block_n ?_ | refine block_r ?_) | refine aw_ret ?_ | refine aw_cond rfl (fun hbr => ?_) (fun hbr => ?_) | (refine isAg ?_; refine do_br rfl rfl (fun hbr => ?_) (fun hbr => ?_) <;> (fail_if_success (with_reducible (have hx : true = true := hbr))) <;> (fail_if_success (with_reducible (have hx : false = false := hbr)))) | (refine isLg rfl ?_; refine lex_br rfl rfl rfl rfl (fun hbr => ?_) (fun hbr => ?_) <;> (fail_if_success (with_reducible (have hx : true = true := hbr))) <;> (fail_if_success (with_reducible (have hx : false = false := hbr))))
        · rename_i h1
          have h1 := of_decide_eq_true h1
          have h2 := of_decide_eq_true hbr
          simp only at h1 h2
          rw [ee] at h2
          have c1 := c_rotX (ds := D) (rs := P ++ A1 ++ B1 ++ A2 ++ B2 ++ Q) (L := L) (a := ((a + i : Nat) : Int)) (m := (m : Int)) (b := IntKind.i64.wrap (((a + w + m : Nat) : Int) - ((a + i : Nat) : Int))) (P ++ A1) A2 B1 (B2 ++ Q) (by rw [hD']; simp only [List.append_assoc]) hL.symm hl (by simp only [List.length_append]; omega) (by simp only [List.length_append]; omega) (by rw [ee]; simp only [List.length_append]; omega) (by omega) (by omega) (by simp only [List.append_assoc])
          repeat' first | refine aw_seq ?_ | refine aw_region ?_ | refine aw_lex [] ?_ | (refine isA ?_; refine do_F rfl ?_) | (refine isL ?_; refine lex_F rfl (by kernel_rfl) rfl rfl ?_) | (refine isLg rfl ?_; refine lex_S rfl (by kernel_rfl) rfl rfl ?_) | (refine isAc 179 ?_; refine do_R rfl (step_callMs (K := []) (Rs' := [_]) [0] (by decide) rfl c1 (.cons rfl rfl rfl (flat_noH _ _) (flat_noH _ _) .nil) (.cons (.sl rfl) (.cons (.same rfl) (.cons (.same rfl) (.cons (.same rfl) (.cons (.same rfl) .nil))))) (fun q hq => by cases hq) rfl) rfl ?_) | (refine isLc 179 rfl ?_; refine lex_R rfl (by kernel_rfl) rfl (step_callMs (K := []) (Rs' := [_]) [0] (by decide) rfl c1 (.cons rfl rfl rfl (flat_noH _ _) (flat_noH _ _) .nil) (.cons (.sl rfl) (.cons (.same rfl) (.cons (.same rfl) (.cons (.same rfl) (.cons (.same rfl) .nil))))) (fun q hq => by cases hq) rfl) rfl ?_) | refine aops_nil ?_ | refine lex_done _ rfl (by kernel_rfl) ?_ | refine aw_ct rfl ?_ | refine aw_cf rfl ?_ | refine aw_block ?_ | with_reducible refine then_n ?_ | refine aw_skip ?_ | refine aw_exit ?_ | (with_reducible first | refine then_x ?_ | refine then_r ?_ | refine block_x ?_ | refine block_n ?_ | refine block_r ?_) | refine aw_ret ?_
          exact ⟨rfl, subm 1 [0] rfl rfl fix1 (by decide) (.cons rfl rfl rfl rfl (les_refl (flat_noH _ _)) .nil) (by
            repeat' first | exact les_nil | refine les_cons ?_ ?_ | exact le_any | exact le_refl rfl | exact le_sl rfl rfl | exact le_k (congrArg _ ee.symm))⟩
        · have h2 := of_decide_eq_false hbr
          simp only at h2
          rw [ee] at h2
          have e := r1.resolve_right (fun h => by omega)
          rw [← hD'] at e
          exact ⟨rfl, subm 1 [0] rfl rfl fix1 (by decide) (.cons rfl rfl rfl rfl (les_eq (congrArg rwT.flat e) (flat_noH _ _)) .nil) (by
            repeat' first | exact les_nil | refine les_cons ?_ ?_ | exact le_any | exact le_refl rfl | exact le_sl rfl rfl | exact le_k (congrArg _ ee.symm))⟩
        · have h2 := of_decide_eq_false hbr
          simp only at h2
          have e := r1.resolve_right (fun h => by omega)
          rw [← hD'] at e
          exact ⟨rfl, subm 1 [0] rfl rfl fix1 (by decide) (.cons rfl rfl rfl rfl (les_eq (congrArg rwT.flat e) (flat_noH _ _)) .nil) (by
            repeat' first | exact les_nil | refine les_cons ?_ ?_ | exact le_any | exact le_refl rfl | exact le_sl rfl rfl | exact le_k (congrArg _ ee.symm))⟩
        · rename_i h1
          have h1 := of_decide_eq_true h1
          have h2 := of_decide_eq_true hbr
          have c1 := (IH P A1 B1 (A2 ++ B2 ++ Q) (by omega) sA1 sB1 (by omega) (by omega) (by simp only [List.length_append]; omega)).x (ds := P ++ A1 ++ B1 ++ A2 ++ B2 ++ Q) (rs := P ++ srtV (A1 ++ B1) ++ A2 ++ B2 ++ Q) (L := L) (a := (a : Int)) (m := ((a + i : Nat) : Int)) (b := ((a + w : Nat) : Int)) (by simp only [List.append_assoc]) (by simp only [List.length_append]; omega) (by omega) (by simp only [List.length_append]; omega) (by simp only [List.length_append]; omega) (by simp only [List.append_assoc])
          repeat' first | refine aw_seq ?_ | refine aw_region ?_ | refine aw_lex [] ?_ | (refine isA ?_; refine do_F rfl ?_) | (refine isL ?_; refine lex_F rfl (by kernel_rfl) rfl rfl ?_) | (refine isLg rfl ?_; refine lex_S rfl (by kernel_rfl) rfl rfl ?_) | (refine isAc 167 ?_; refine do_R rfl (step_callMs (K := []) (Rs' := [_]) [0] (by decide) rfl c1 (.cons rfl rfl rfl (flat_noH _ _) (flat_noH _ _) .nil) (.cons (.sl rfl) (.cons (.same rfl) (.cons (.same rfl) (.cons (.same rfl) (.cons (.same rfl) .nil))))) (fun q hq => by cases hq) rfl) rfl ?_) | (refine isLc 167 rfl ?_; refine lex_R rfl (by kernel_rfl) rfl (step_callMs (K := []) (Rs' := [_]) [0] (by decide) rfl c1 (.cons rfl rfl rfl (flat_noH _ _) (flat_noH _ _) .nil) (.cons (.sl rfl) (.cons (.same rfl) (.cons (.same rfl) (.cons (.same rfl) (.cons (.same rfl) .nil))))) (fun q hq => by cases hq) rfl) rfl ?_) | refine aops_nil ?_ | refine lex_done _ rfl (by kernel_rfl) ?_ | refine aw_ct rfl ?_ | refine aw_cf rfl ?_ | refine aw_block ?_ | with_reducible refine then_n ?_ | refine aw_skip ?_ | refine aw_exit ?_ | (with_reducible first | refine then_x ?_ | refine then_r ?_ | refine block_x ?_ | refine block_n ?_ | refine block_r ?_) | refine aw_ret ?_
          exact ⟨rfl, subm 1 [0] rfl rfl fix1 (by decide) (.cons rfl rfl rfl rfl (les_refl (flat_noH _ _)) .nil) (by
            repeat' first | exact les_nil | refine les_cons ?_ ?_ | exact le_any | exact le_refl rfl | exact le_sl rfl rfl)⟩
        · have h2 := of_decide_eq_false hbr
          have e := srt_cases sA1 sB1 (by omega)
          exact ⟨rfl, subm 1 [0] rfl rfl fix1 (by decide) (.cons rfl rfl rfl rfl (les_eq (congrArg rwT.flat (show P ++ A1 ++ B1 ++ A2 ++ B2 ++ Q = P ++ srtV (A1 ++ B1) ++ A2 ++ B2 ++ Q by rw [← e]; simp only [List.append_assoc])) (flat_noH _ _)) .nil) (by
            repeat' first | exact les_nil | refine les_cons ?_ ?_ | exact le_any | exact le_refl rfl | exact le_sl rfl rfl)⟩
        · have h2 := of_decide_eq_false hbr
          have e := srt_cases sA1 sB1 (by omega)
          exact ⟨rfl, subm 1 [0] rfl rfl fix1 (by decide) (.cons rfl rfl rfl rfl (les_eq (congrArg rwT.flat (show P ++ A1 ++ B1 ++ A2 ++ B2 ++ Q = P ++ srtV (A1 ++ B1) ++ A2 ++ B2 ++ Q by rw [← e]; simp only [List.append_assoc])) (flat_noH _ _)) .nil) (by
            repeat' first | exact les_nil | refine les_cons ?_ ?_ | exact le_any | exact le_refl rfl | exact le_sl rfl rfl)⟩
        · rename_i h1
          have h1 := of_decide_eq_true h1
          have h2 := of_decide_eq_true hbr
          have c1 := (IH (P ++ srtV (A1 ++ B1)) A2 B2 Q (by omega) sA2 sB2 (by omega) (by omega) (by simp only [List.length_append]; omega)).x (ds := P ++ srtV (A1 ++ B1) ++ A2 ++ B2 ++ Q) (rs := P ++ srtV (A ++ B) ++ Q) (L := L) (a := ((a + w : Nat) : Int)) (m := ((m + (w - i) : Nat) : Int)) (b := (b : Int)) rfl (by simp only [List.length_append]; omega) (by simp only [List.length_append]; omega) (by simp only [List.length_append]; omega) (by simp only [List.length_append]; omega) (by rw [← u4]; simp only [List.append_assoc])
          repeat' first | refine aw_seq ?_ | refine aw_region ?_ | refine aw_lex [] ?_ | (refine isA ?_; refine do_F rfl ?_) | (refine isL ?_; refine lex_F rfl (by kernel_rfl) rfl rfl ?_) | (refine isLg rfl ?_; refine lex_S rfl (by kernel_rfl) rfl rfl ?_) | (refine isAc 167 ?_; refine do_R rfl (step_callMs (K := []) (Rs' := [_]) [0] (by decide) rfl c1 (.cons rfl rfl rfl (flat_noH _ _) (flat_noH _ _) .nil) (.cons (.sl rfl) (.cons (.same rfl) (.cons (.same rfl) (.cons (.same rfl) (.cons (.same rfl) .nil))))) (fun q hq => by cases hq) rfl) rfl ?_) | (refine isLc 167 rfl ?_; refine lex_R rfl (by kernel_rfl) rfl (step_callMs (K := []) (Rs' := [_]) [0] (by decide) rfl c1 (.cons rfl rfl rfl (flat_noH _ _) (flat_noH _ _) .nil) (.cons (.sl rfl) (.cons (.same rfl) (.cons (.same rfl) (.cons (.same rfl) (.cons (.same rfl) .nil))))) (fun q hq => by cases hq) rfl) rfl ?_) | exact finMv 1 [0] fix1 (by decide) (.cons rfl rfl rfl rfl (les_refl (flat_noH _ _)) .nil) | refine aops_nil ?_ | refine lex_done _ rfl (by kernel_rfl) ?_ | refine aw_ct rfl ?_ | refine aw_cf rfl ?_ | refine aw_block ?_ | with_reducible refine then_n ?_ | refine aw_skip ?_ | refine aw_exit ?_ | (with_reducible first | refine then_x ?_ | refine then_r ?_ | refine block_x ?_ | refine block_n ?_ | refine block_r ?_) | refine aw_ret ?_
        · have h2 := of_decide_eq_false hbr
          have e := srt_cases sA2 sB2 (by omega)
          exact finMv 1 [0] fix1 (by decide) (.cons rfl rfl rfl rfl (les_eq (congrArg rwT.flat (show P ++ srtV (A1 ++ B1) ++ A2 ++ B2 ++ Q = P ++ srtV (A ++ B) ++ Q by rw [← u4, ← e]; simp only [List.append_assoc])) (flat_noH _ _)) .nil)
        · have h2 := of_decide_eq_false hbr
          have e := srt_cases sA2 sB2 (by omega)
          exact finMv 1 [0] fix1 (by decide) (.cons rfl rfl rfl rfl (les_eq (congrArg rwT.flat (show P ++ srtV (A1 ++ B1) ++ A2 ++ B2 ++ Q = P ++ srtV (A ++ B) ++ Q by rw [← u4, ← e]; simp only [List.append_assoc])) (flat_noH _ _)) .nil)

theorem c_sym : ∀ (N : Nat) (P A B Q : List Rw), A.length + B.length ≤ N → Srt A → Srt B → 0 < A.length → 0 < B.length → (P ++ A ++ B ++ Q).length ≤ 100000000 → SymC P A B Q
  | 0, P, A, B, Q, hn, hA, hB, h0, h1, hl => by omega
  | N + 1, P, A, B, Q, hn, hA, hB, h0, h1, hl => by
    rcases Nat.lt_or_ge A.length 2 with hx | hx
    · obtain ⟨x, rfl⟩ := List.length_eq_one_iff.1 (show A.length = 1 by omega)
      exact c_sym1 P B Q x hB h1 hl
    · rcases Nat.lt_or_ge B.length 2 with hy | hy
      · obtain ⟨x, rfl⟩ := List.length_eq_one_iff.1 (show B.length = 1 by omega)
        exact c_sym2 P A Q x hA hx hl
      · exact c_symM P A B Q hA hB hx hy hl (fun P' A' B' Q' h => c_sym N P' A' B' Q' (by omega))
end Go.Proofs.Ytkcicbigpbdjpaa.Ab.Pr

/- PaK -/
-- BY gen_pair.py
/-
  The stable sort of rows, and SortRows of the program.
-/
namespace Go.Proofs.Ytkcicbigpbdjpaa.Ab.Pr
open Go.RowKit

theorem c_insort0 (xs : List Rw) (a : Nat) (h2 : a ≤ xs.length) (hl : xs.length ≤ 100000000) : Meets Go.Proofs.Try.prog 166 [.sl 0 0 xs.length, I a, I a, .fn 77 []] [rwR xs] (.tup []) [rwR xs] true := by
  refine meets_of [] Go.Proofs.Try.func166 rfl rfl ?_
  simp only [Go.Proofs.Try.ntmps166, List.length_cons, List.length_nil, Nat.reduceAdd, Nat.reduceSub, List.replicate_succ, List.replicate_zero, List.cons_append, List.nil_append]
  repeat' first | refine aw_seq ?_ | refine aw_region ?_ | refine aw_lex [] ?_ | (refine isA ?_; refine do_F rfl ?_) | (refine isL ?_; refine lex_F rfl (by kernel_rfl) rfl rfl ?_) | (refine isLg rfl ?_; refine lex_S rfl (by kernel_rfl) rfl rfl ?_) | refine aops_nil ?_ | refine lex_done _ rfl (by kernel_rfl) ?_ | refine aw_ct rfl ?_ | refine aw_cf rfl ?_ | refine aw_block ?_ | with_reducible refine then_n ?_ | refine aw_skip ?_ | refine aw_exit ?_ | (with_reducible first | refine then_x ?_ | refine then_r ?_ | refine block_x ?_ | refine block_n ?_ | refine block_r ?_) | refine aw_ret ?_
  refine aw_loop (α := Unit) (fun i => ⟨[.sl 0 0 xs.length, I a, I a, .fn 77 [], .any, .any, .any, .any, I ((a + 1 : Nat) : Int), .any, .any, .any, .any, .any, .any, .any, .any, .any, .any, .any, .any, .any, .any, .any, .any, .any, .any, .any, .any, .any, .any, .any, .any, .any, .any, .any, .any, .any, .any, .any, .any, .any, .any, .any, .any, .any, .any, .any, .any, .any, .any, .any, .any], [rwR xs], 1⟩) (fun i => 0) () ?_ ?_
  · exact subm 1 [0] rfl rfl fix1 (by decide) (.cons rfl rfl rfl rfl (les_refl (flat_noH _ _)) .nil) (by
      repeat' first | exact les_nil | refine les_cons ?_ ?_ | exact le_any | exact le_refl rfl | exact le_sl rfl rfl | exact le_k (congrArg _ (show ((a + 1 : Nat) : Int) = IntKind.i64.wrap ((a : Int) + 1) by rw [IntKind.wrap_i64]; omega)))
  · rintro ⟨⟩
    repeat' first | refine aw_seq ?_ | refine aw_region ?_ | refine aw_lex [] ?_ | (refine isA ?_; refine do_F rfl ?_) | (refine isL ?_; refine lex_F rfl (by kernel_rfl) rfl rfl ?_) | (refine isLg rfl ?_; refine lex_S rfl (by kernel_rfl) rfl rfl ?_) | refine aops_nil ?_ | refine lex_done _ rfl (by kernel_rfl) ?_ | refine aw_ct rfl ?_ | refine aw_cf rfl ?_ | refine aw_block ?_ | with_reducible refine then_n ?_ | refine aw_skip ?_ | refine aw_exit ?_ | (with_reducible first | refine then_x ?_ | refine then_r ?_ | refine block_x ?_ | refine block_n ?_ | refine block_r ?_) | refine aw_ret ?_
    refine aw_cond rfl (fun h => absurd (of_decide_eq_true h) (by omega)) (fun h => ?_)
    repeat' first | refine aw_seq ?_ | refine aw_region ?_ | refine aw_lex [] ?_ | (refine isA ?_; refine do_F rfl ?_) | (refine isL ?_; refine lex_F rfl (by kernel_rfl) rfl rfl ?_) | (refine isLg rfl ?_; refine lex_S rfl (by kernel_rfl) rfl rfl ?_) | exact finMv 1 [0] fix1 (by decide) (.cons rfl rfl rfl rfl (les_refl (flat_noH _ _)) .nil) | refine aops_nil ?_ | refine lex_done _ rfl (by kernel_rfl) ?_ | refine aw_ct rfl ?_ | refine aw_cf rfl ?_ | refine aw_block ?_ | with_reducible refine then_n ?_ | refine aw_skip ?_ | refine aw_exit ?_ | (with_reducible first | refine then_x ?_ | refine then_r ?_ | refine block_x ?_ | refine block_n ?_ | refine block_r ?_) | refine aw_ret ?_
theorem c_insX {ds rs : List Rw} {L : Nat} {a b : Int} (U X W : List Rw) (hd : ds = U ++ X ++ W) (hL : L = ds.length) (hl : L ≤ 100000000) (ha : a = (U.length : Int)) (hb : b = ((U ++ X).length : Int)) (hr : rs = U ++ srtV X ++ W) :
    Meets Go.Proofs.Try.prog 166 [.sl 0 0 L, I a, I b, .fn 77 []] [rwR ds] (.tup []) [rwR rs] true := by
  subst hd hL ha hb hr
  rcases Nat.eq_zero_or_pos X.length with h | h
  · rw [List.eq_nil_of_length_eq_zero h]
    have q := c_insort0 (U ++ W) U.length (by simp) (by simp at hl ⊢; omega)
    rw [show srtV ([] : List Rw) = [] from rfl, List.append_nil]
    exact q
  · have q := c_insort (U ++ X ++ W) U.length (U ++ X).length (by simp; omega) (by simp) hl
    have e : srtR (U ++ X ++ W) U.length (U ++ X).length = U ++ srtV X ++ W := by
      unfold srtR
      rw [show (U ++ X ++ W).take U.length = U by rw [List.append_assoc]; exact List.take_left' rfl, show (U ++ X ++ W).drop U.length = X ++ W by rw [List.append_assoc]; exact List.drop_left' rfl, show (U ++ X).length - U.length = X.length by simp, show (X ++ W).take X.length = X from List.take_left' rfl, show (U ++ X ++ W).drop (U ++ X).length = W from List.drop_left' rfl, List.append_assoc]
    rw [e] at q
    exact q

structure Bkk (s : Nat) (xs : List Rw) (p : List Rw × List Rw) : Prop where
  f : Full s p.1
  p : (p.1 ++ p.2).Perm xs
theorem Bkk.len {s : Nat} {xs : List Rw} {p : List Rw × List Rw} (h : Bkk s xs p) : p.1.length + p.2.length = xs.length := by
  have := h.p.length_eq
  rw [List.length_append] at this
  exact this

theorem c_stable (xs : List Rw) (hl : xs.length ≤ 100000000) : Meets Go.Proofs.Try.prog 160 [.sl 0 0 xs.length, I xs.length, .fn 77 []] [rwR xs] (.tup []) [rwR (srtV xs)] true := by
  refine meets_of [] Go.Proofs.Try.func160 rfl rfl ?_
  simp only [Go.Proofs.Try.ntmps160, List.length_cons, List.length_nil, Nat.reduceAdd, Nat.reduceSub, List.replicate_succ, List.replicate_zero, List.cons_append, List.nil_append]
  repeat' first | refine aw_seq ?_ | refine aw_region ?_ | refine aw_lex [] ?_ | (refine isA ?_; refine do_F rfl ?_) | (refine isL ?_; refine lex_F rfl (by kernel_rfl) rfl rfl ?_) | (refine isLg rfl ?_; refine lex_S rfl (by kernel_rfl) rfl rfl ?_) | refine aops_nil ?_ | refine lex_done _ rfl (by kernel_rfl) ?_ | refine aw_ct rfl ?_ | refine aw_cf rfl ?_ | refine aw_block ?_ | with_reducible refine then_n ?_ | refine aw_skip ?_ | refine aw_exit ?_ | (with_reducible first | refine then_x ?_ | refine then_r ?_ | refine block_x ?_ | refine block_n ?_ | refine block_r ?_) | refine aw_ret ?_
  refine aw_loop (α := { p : List Rw × List Rw // Bkk 20 xs p }) (fun p => ⟨((.sl 0 0 xs.length) :: (I xs.length) :: (.fn 77 []) :: .any :: .any :: .any :: (I 20) :: (I p.1.1.length) :: (I ((p.1.1.length + 20 : Nat) : Int)) :: .any :: .any :: .any :: .any :: .any :: .any :: .any :: .any :: .any :: .any :: .any :: .any :: .any :: .any :: .any :: .any :: .any :: .any :: .any :: .any :: .any :: .any :: .any :: .any :: .any :: .any :: .any :: .any :: .any :: .any :: .any :: .any :: .any :: .any :: .any :: .any :: .any :: .any :: .any :: .any :: .any :: .any :: .any :: .any :: .any :: .any :: .any :: .any :: .any :: .any :: .any :: .any :: .any :: .any :: []), [rwR (p.1.1 ++ p.1.2)], 1⟩) (fun p => p.1.2.length) ⟨([], xs), full_nil, .refl _⟩ ?_ ?_
  · exact subm 1 [0] rfl rfl fix1 (by decide) (.cons rfl rfl rfl rfl (les_refl (flat_noH _ _)) .nil) (by repeat' first | exact les_nil | refine les_cons ?_ ?_ | exact le_any | exact le_refl rfl | exact le_sl rfl rfl | exact le_ptr rfl)
  · rintro ⟨⟨U, V⟩, J⟩
    have j1 : U.length + V.length = xs.length := J.len
    have j2 : (U ++ V).Perm xs := J.p
    have j3 : Full 20 U := J.f
    repeat' first | refine aw_seq ?_ | refine aw_region ?_ | refine aw_lex [] ?_ | (refine isA ?_; refine do_F rfl ?_) | (refine isL ?_; refine lex_F rfl (by kernel_rfl) rfl rfl ?_) | (refine isLg rfl ?_; refine lex_S rfl (by kernel_rfl) rfl rfl ?_) | refine aops_nil ?_ | refine lex_done _ rfl (by kernel_rfl) ?_ | refine aw_ct rfl ?_ | refine aw_cf rfl ?_ | refine aw_block ?_ | with_reducible refine then_n ?_ | refine aw_skip ?_ | refine aw_exit ?_ | (with_reducible first | refine then_x ?_ | refine then_r ?_ | refine block_x ?_ | refine block_n ?_ | refine block_r ?_) | refine aw_ret ?_
    refine aw_cond rfl (fun h => ?_) (fun h => ?_)
    · have hlt : 20 ≤ V.length := by have := of_decide_eq_true h; simp only at this; omega
      have t1 : V.take 20 ++ V.drop 20 = V := List.take_append_drop _ _
      have t2 : (V.take 20).length = 20 := by simp; omega
      have t3 := (srtV_perm (V.take 20)).length_eq
      have t4 : (V.drop 20).length = V.length - 20 := by simp
      have c1 := c_insX (ds := U ++ V) (rs := U ++ srtV (V.take 20) ++ V.drop 20) (L := xs.length) (a := (U.length : Int)) (b := ((U.length + 20 : Nat) : Int)) U (V.take 20) (V.drop 20) (by rw [List.append_assoc, t1]) (by rw [List.length_append]; omega) hl rfl (by rw [List.length_append]; omega) rfl
      repeat' first | refine aw_seq ?_ | refine aw_region ?_ | refine aw_lex [] ?_ | (refine isA ?_; refine do_F rfl ?_) | (refine isL ?_; refine lex_F rfl (by kernel_rfl) rfl rfl ?_) | (refine isLg rfl ?_; refine lex_S rfl (by kernel_rfl) rfl rfl ?_) | (refine isAc 166 ?_; refine do_R rfl (step_callMs (K := []) (Rs' := [_]) [0] (by decide) rfl c1 (.cons rfl rfl rfl (flat_noH _ _) (flat_noH _ _) .nil) (.cons (.sl rfl) (.cons (.same rfl) (.cons (.same rfl) (.cons (.same rfl) .nil)))) (fun q hq => by cases hq) rfl) rfl ?_) | (refine isLc 166 rfl ?_; refine lex_R rfl (by kernel_rfl) rfl (step_callMs (K := []) (Rs' := [_]) [0] (by decide) rfl c1 (.cons rfl rfl rfl (flat_noH _ _) (flat_noH _ _) .nil) (.cons (.sl rfl) (.cons (.same rfl) (.cons (.same rfl) (.cons (.same rfl) .nil)))) (fun q hq => by cases hq) rfl) rfl ?_) | refine aops_nil ?_ | refine lex_done _ rfl (by kernel_rfl) ?_ | refine aw_ct rfl ?_ | refine aw_cf rfl ?_ | refine aw_block ?_ | with_reducible refine then_n ?_ | refine aw_skip ?_ | refine aw_exit ?_ | (with_reducible first | refine then_x ?_ | refine then_r ?_ | refine block_x ?_ | refine block_n ?_ | refine block_r ?_) | refine aw_ret ?_
      refine ⟨⟨(U ++ srtV (V.take 20), V.drop 20), full_snoc j3 (by omega) (srtV_srt _), ?_⟩, by simp only; omega, ?_⟩
      · refine List.Perm.trans ?_ j2
        rw [List.append_assoc]
        refine List.Perm.append_left _ ?_
        have := (srtV_perm (V.take 20)).append_right (V.drop 20)
        rw [t1] at this
        exact this
      · exact subm 1 [0] rfl rfl fix1 (by decide) (.cons rfl rfl rfl rfl (les_refl (flat_noH _ _)) .nil) (by
          repeat' first | exact les_nil | refine les_cons ?_ ?_ | exact le_any | exact le_refl rfl | exact le_sl rfl rfl | exact le_k (congrArg _ (show (((U ++ srtV (V.take 20)).length : Nat) : Int) = ((U.length + 20 : Nat) : Int) by rw [List.length_append]; omega)) | exact le_k (congrArg _ (show (((U ++ srtV (V.take 20)).length + 20 : Nat) : Int) = IntKind.i64.wrap (((U.length + 20 : Nat) : Int) + 20) by rw [List.length_append, IntKind.wrap_i64]; omega)))
    · have hge : V.length < 20 := by have := of_decide_eq_false h; simp only at this; omega
      have t3 := (srtV_perm V).length_eq
      have c1 := c_insX (ds := U ++ V) (rs := U ++ srtV V) (L := xs.length) (a := (U.length : Int)) (b := (xs.length : Int)) U V [] (by simp) (by rw [List.length_append]; omega) hl rfl (by rw [List.length_append]; omega) (by simp)
      have b1 : Blk 20 (U ++ srtV V) := full_last j3 (by omega) (srtV_srt _)
      have p1 : (U ++ srtV V).Perm xs := ((srtV_perm V).append_left U).trans j2
      repeat' first | refine aw_seq ?_ | refine aw_region ?_ | refine aw_lex [] ?_ | (refine isA ?_; refine do_F rfl ?_) | (refine isL ?_; refine lex_F rfl (by kernel_rfl) rfl rfl ?_) | (refine isLg rfl ?_; refine lex_S rfl (by kernel_rfl) rfl rfl ?_) | (refine isAc 166 ?_; refine do_R rfl (step_callMs (K := []) (Rs' := [_]) [0] (by decide) rfl c1 (.cons rfl rfl rfl (flat_noH _ _) (flat_noH _ _) .nil) (.cons (.sl rfl) (.cons (.same rfl) (.cons (.same rfl) (.cons (.same rfl) .nil)))) (fun q hq => by cases hq) rfl) rfl ?_) | (refine isLc 166 rfl ?_; refine lex_R rfl (by kernel_rfl) rfl (step_callMs (K := []) (Rs' := [_]) [0] (by decide) rfl c1 (.cons rfl rfl rfl (flat_noH _ _) (flat_noH _ _) .nil) (.cons (.sl rfl) (.cons (.same rfl) (.cons (.same rfl) (.cons (.same rfl) .nil)))) (fun q hq => by cases hq) rfl) rfl ?_) | refine aops_nil ?_ | refine lex_done _ rfl (by kernel_rfl) ?_ | refine aw_ct rfl ?_ | refine aw_cf rfl ?_ | refine aw_block ?_ | with_reducible refine then_n ?_ | refine aw_skip ?_ | refine aw_exit ?_ | (with_reducible first | refine then_x ?_ | refine then_r ?_ | refine block_x ?_ | refine block_n ?_ | refine block_r ?_) | refine aw_ret ?_
      refine aw_loop (α := { p : Nat × List Rw // 20 ≤ p.1 ∧ Blk p.1 p.2 ∧ p.2.Perm xs }) (fun p => ⟨((.sl 0 0 xs.length) :: (I xs.length) :: (.fn 77 []) :: .any :: .any :: .any :: (I p.1.1) :: .any :: .any :: .any :: .any :: .any :: .any :: .any :: .any :: .any :: .any :: .any :: .any :: .any :: .any :: .any :: .any :: .any :: .any :: .any :: .any :: .any :: .any :: .any :: .any :: .any :: .any :: .any :: .any :: .any :: .any :: .any :: .any :: .any :: .any :: .any :: .any :: .any :: .any :: .any :: .any :: .any :: .any :: .any :: .any :: .any :: .any :: .any :: .any :: .any :: .any :: .any :: .any :: .any :: .any :: .any :: .any :: []), [rwR p.1.2], 1⟩) (fun p => xs.length - p.1.1) ⟨(20, U ++ srtV V), Nat.le_refl _, b1, p1⟩ ?_ ?_
      · exact subm 1 [0] rfl rfl fix1 (by decide) (.cons rfl rfl rfl rfl (les_refl (flat_noH _ _)) .nil) (by repeat' first | exact les_nil | refine les_cons ?_ ?_ | exact le_any | exact le_refl rfl | exact le_sl rfl rfl | exact le_ptr rfl)
      · rintro ⟨⟨s, ys⟩, k1, k2, k3⟩
        simp only at k1 k2 k3
        have yl := k3.length_eq
        repeat' first | refine aw_seq ?_ | refine aw_region ?_ | refine aw_lex [] ?_ | (refine isA ?_; refine do_F rfl ?_) | (refine isL ?_; refine lex_F rfl (by kernel_rfl) rfl rfl ?_) | (refine isLg rfl ?_; refine lex_S rfl (by kernel_rfl) rfl rfl ?_) | refine aops_nil ?_ | refine lex_done _ rfl (by kernel_rfl) ?_ | refine aw_ct rfl ?_ | refine aw_cf rfl ?_ | refine aw_block ?_ | with_reducible refine then_n ?_ | refine aw_skip ?_ | refine aw_exit ?_ | (with_reducible first | refine then_x ?_ | refine then_r ?_ | refine block_x ?_ | refine block_n ?_ | refine block_r ?_) | refine aw_ret ?_
        refine aw_cond rfl (fun h => ?_) (fun h => ?_)
        · have hlt : s < xs.length := by have := of_decide_eq_true h; simp only at this; omega
          have e2 : IntKind.i64.wrap (2 * (s : Int)) = ((2 * s : Nat) : Int) := by rw [IntKind.wrap_i64]; omega
          have e2' : IntKind.i64.wrap ((s : Int) * 2) = ((2 * s : Nat) : Int) := by rw [IntKind.wrap_i64]; omega
          repeat' first | refine aw_seq ?_ | refine aw_region ?_ | refine aw_lex [] ?_ | (refine isA ?_; refine do_F rfl ?_) | (refine isL ?_; refine lex_F rfl (by kernel_rfl) rfl rfl ?_) | (refine isLg rfl ?_; refine lex_S rfl (by kernel_rfl) rfl rfl ?_) | refine aops_nil ?_ | refine lex_done _ rfl (by kernel_rfl) ?_ | refine aw_ct rfl ?_ | refine aw_cf rfl ?_ | refine aw_block ?_ | with_reducible refine then_n ?_ | refine aw_skip ?_ | refine aw_exit ?_ | (with_reducible first | refine then_x ?_ | refine then_r ?_ | refine block_x ?_ | refine block_n ?_ | refine block_r ?_) | refine aw_ret ?_
          refine aw_loop (α := { p : List Rw × List Rw // Bkk (2 * s) xs p ∧ Blk s p.2 }) (fun p => ⟨((.sl 0 0 xs.length) :: (I xs.length) :: (.fn 77 []) :: .any :: .any :: .any :: (I s) :: (I p.1.1.length) :: (I ((p.1.1.length + 2 * s : Nat) : Int)) :: .any :: .any :: .any :: .any :: .any :: .any :: .any :: .any :: .any :: .any :: .any :: .any :: .any :: .any :: .any :: .any :: .any :: .any :: .any :: .any :: .any :: .any :: .any :: .any :: .any :: .any :: .any :: .any :: .any :: .any :: .any :: .any :: .any :: .any :: .any :: .any :: .any :: .any :: .any :: .any :: .any :: .any :: .any :: .any :: .any :: .any :: .any :: .any :: .any :: .any :: .any :: .any :: .any :: .any :: []), [rwR (p.1.1 ++ p.1.2)], 1⟩) (fun p => p.1.2.length) ⟨([], ys), ⟨full_nil, k3⟩, k2⟩ ?_ ?_
          · exact subm 1 [0] rfl rfl fix1 (by decide) (.cons rfl rfl rfl rfl (les_refl (flat_noH _ _)) .nil) (by
              repeat' first | exact les_nil | refine les_cons ?_ ?_ | exact le_any | exact le_refl rfl | exact le_sl rfl rfl | exact le_k (congrArg _ (show (((([] : List Rw).length + 2 * s : Nat)) : Int) = IntKind.i64.wrap (2 * (s : Int)) by rw [e2]; simp)))
          · rintro ⟨⟨U, V⟩, J, j4⟩
            have j1 : U.length + V.length = xs.length := J.len
            have j2 : (U ++ V).Perm xs := J.p
            have j3 : Full (2 * s) U := J.f
            simp only at j4
            have ea : IntKind.i64.wrap ((U.length : Int) + s) = ((U.length + s : Nat) : Int) := by rw [IntKind.wrap_i64]; omega
            repeat' first | refine aw_seq ?_ | refine aw_region ?_ | refine aw_lex [] ?_ | (refine isA ?_; refine do_F rfl ?_) | (refine isL ?_; refine lex_F rfl (by kernel_rfl) rfl rfl ?_) | (refine isLg rfl ?_; refine lex_S rfl (by kernel_rfl) rfl rfl ?_) | refine aops_nil ?_ | refine lex_done _ rfl (by kernel_rfl) ?_ | refine aw_ct rfl ?_ | refine aw_cf rfl ?_ | refine aw_block ?_ | with_reducible refine then_n ?_ | refine aw_skip ?_ | refine aw_exit ?_ | (with_reducible first | refine then_x ?_ | refine then_r ?_ | refine block_x ?_ | refine block_n ?_ | refine block_r ?_) | refine aw_ret ?_
            refine aw_cond rfl (fun h => ?_) (fun h => ?_)
            · have hle : 2 * s ≤ V.length := by have := of_decide_eq_true h; simp only at this; omega
              obtain ⟨X, Y, Z, rfl, hX, hY, sX, sY, hZ⟩ := blk_two (by omega) j4 hle
              simp only [List.length_append] at j1
              have t3 := (srtV_perm (X ++ Y)).length_eq
              rw [List.length_append] at t3
              have c1 := (c_sym _ U X Y Z (Nat.le_refl _) sX sY (by omega) (by omega) (by simp only [List.length_append]; omega)).x (ds := U ++ (X ++ Y ++ Z)) (rs := U ++ srtV (X ++ Y) ++ Z) (L := xs.length) (a := (U.length : Int)) (m := IntKind.i64.wrap ((U.length : Int) + s)) (b := ((U.length + 2 * s : Nat) : Int)) (by simp only [List.append_assoc]) (by simp only [List.length_append]; omega) rfl (by rw [ea, List.length_append]; omega) (by simp only [List.length_append]; omega) rfl
              repeat' first | refine aw_seq ?_ | refine aw_region ?_ | refine aw_lex [] ?_ | (refine isA ?_; refine do_F rfl ?_) | (refine isL ?_; refine lex_F rfl (by kernel_rfl) rfl rfl ?_) | (refine isLg rfl ?_; refine lex_S rfl (by kernel_rfl) rfl rfl ?_) | (refine isAc 167 ?_; refine do_R rfl (step_callMs (K := []) (Rs' := [_]) [0] (by decide) rfl c1 (.cons rfl rfl rfl (flat_noH _ _) (flat_noH _ _) .nil) (.cons (.sl rfl) (.cons (.same rfl) (.cons (.same rfl) (.cons (.same rfl) (.cons (.same rfl) .nil))))) (fun q hq => by cases hq) rfl) rfl ?_) | (refine isLc 167 rfl ?_; refine lex_R rfl (by kernel_rfl) rfl (step_callMs (K := []) (Rs' := [_]) [0] (by decide) rfl c1 (.cons rfl rfl rfl (flat_noH _ _) (flat_noH _ _) .nil) (.cons (.sl rfl) (.cons (.same rfl) (.cons (.same rfl) (.cons (.same rfl) (.cons (.same rfl) .nil))))) (fun q hq => by cases hq) rfl) rfl ?_) | refine aops_nil ?_ | refine lex_done _ rfl (by kernel_rfl) ?_ | refine aw_ct rfl ?_ | refine aw_cf rfl ?_ | refine aw_block ?_ | with_reducible refine then_n ?_ | refine aw_skip ?_ | refine aw_exit ?_ | (with_reducible first | refine then_x ?_ | refine then_r ?_ | refine block_x ?_ | refine block_n ?_ | refine block_r ?_) | refine aw_ret ?_
              refine ⟨⟨(U ++ srtV (X ++ Y), Z), ⟨full_snoc j3 (by omega) (srtV_srt _), ?_⟩, hZ⟩, by simp only [List.length_append]; omega, ?_⟩
              · refine List.Perm.trans ?_ j2
                simp only
                rw [List.append_assoc]
                exact List.Perm.append_left _ ((srtV_perm (X ++ Y)).append_right Z)
              · exact subm 1 [0] rfl rfl fix1 (by decide) (.cons rfl rfl rfl rfl (les_refl (flat_noH _ _)) .nil) (by
                  repeat' first | exact les_nil | refine les_cons ?_ ?_ | exact le_any | exact le_refl rfl | exact le_sl rfl rfl | exact le_k (congrArg _ (show (((U ++ srtV (X ++ Y)).length : Nat) : Int) = ((U.length + 2 * s : Nat) : Int) by rw [List.length_append]; omega)) | exact le_k (congrArg _ (show (((U ++ srtV (X ++ Y)).length + 2 * s : Nat) : Int) = IntKind.i64.wrap (((U.length + 2 * s : Nat) : Int) + IntKind.i64.wrap (2 * (s : Int))) by rw [List.length_append, e2, IntKind.wrap_i64]; omega)))
            · have hge : V.length < 2 * s := by have := of_decide_eq_false h; simp only at this; omega
              repeat' first | refine aw_seq ?_ | refine aw_region ?_ | refine aw_lex [] ?_ | (refine isA ?_; refine do_F rfl ?_) | (refine isL ?_; refine lex_F rfl (by kernel_rfl) rfl rfl ?_) | (refine isLg rfl ?_; refine lex_S rfl (by kernel_rfl) rfl rfl ?_) | refine aops_nil ?_ | refine lex_done _ rfl (by kernel_rfl) ?_ | refine aw_ct rfl ?_ | refine aw_cf rfl ?_ | refine aw_block ?_ | with_reducible refine then_n ?_ | refine aw_skip ?_ | refine aw_exit ?_ | (with_reducible first | refine then_x ?_ | refine then_r ?_ | refine block_x ?_ | refine block_n ?_ | refine block_r ?_) | refine aw_ret ?_
              refine aw_cond rfl (fun h2 => ?_) (fun h2 => ?_)
              · have hlt2 : s < V.length := by have := of_decide_eq_true h2; simp only [ea] at this; omega
                obtain ⟨X, Y, rfl, hX, sX, sY, hY⟩ := blk_rest j4 hlt2 hge
                simp only [List.length_append] at j1 hge
                have t3 := (srtV_perm (X ++ Y)).length_eq
                rw [List.length_append] at t3
                have c1 := (c_sym _ U X Y [] (Nat.le_refl _) sX sY (by omega) (by omega) (by simp only [List.length_append, List.length_nil]; omega)).x (ds := U ++ (X ++ Y)) (rs := U ++ srtV (X ++ Y)) (L := xs.length) (a := (U.length : Int)) (m := IntKind.i64.wrap ((U.length : Int) + s)) (b := (xs.length : Int)) (by simp only [List.append_assoc, List.append_nil]) (by simp only [List.length_append]; omega) rfl (by rw [ea, List.length_append]; omega) (by simp only [List.length_append]; omega) (by simp only [List.append_nil])
                repeat' first | refine aw_seq ?_ | refine aw_region ?_ | refine aw_lex [] ?_ | (refine isA ?_; refine do_F rfl ?_) | (refine isL ?_; refine lex_F rfl (by kernel_rfl) rfl rfl ?_) | (refine isLg rfl ?_; refine lex_S rfl (by kernel_rfl) rfl rfl ?_) | (refine isAc 167 ?_; refine do_R rfl (step_callMs (K := []) (Rs' := [_]) [0] (by decide) rfl c1 (.cons rfl rfl rfl (flat_noH _ _) (flat_noH _ _) .nil) (.cons (.sl rfl) (.cons (.same rfl) (.cons (.same rfl) (.cons (.same rfl) (.cons (.same rfl) .nil))))) (fun q hq => by cases hq) rfl) rfl ?_) | (refine isLc 167 rfl ?_; refine lex_R rfl (by kernel_rfl) rfl (step_callMs (K := []) (Rs' := [_]) [0] (by decide) rfl c1 (.cons rfl rfl rfl (flat_noH _ _) (flat_noH _ _) .nil) (.cons (.sl rfl) (.cons (.same rfl) (.cons (.same rfl) (.cons (.same rfl) (.cons (.same rfl) .nil))))) (fun q hq => by cases hq) rfl) rfl ?_) | refine aops_nil ?_ | refine lex_done _ rfl (by kernel_rfl) ?_ | refine aw_ct rfl ?_ | refine aw_cf rfl ?_ | refine aw_block ?_ | with_reducible refine then_n ?_ | refine aw_skip ?_ | refine aw_exit ?_ | (with_reducible first | refine then_x ?_ | refine then_r ?_ | refine block_x ?_ | refine block_n ?_ | refine block_r ?_) | refine aw_ret ?_
                refine ⟨⟨(2 * s, U ++ srtV (X ++ Y)), by simp only; omega, full_last j3 (by omega) (srtV_srt _), ((srtV_perm _).append_left U).trans j2⟩, by simp only; omega, ?_⟩
                exact subm 1 [0] rfl rfl fix1 (by decide) (.cons rfl rfl rfl rfl (les_refl (flat_noH _ _)) .nil) (by
                  repeat' first | exact les_nil | refine les_cons ?_ ?_ | exact le_any | exact le_refl rfl | exact le_sl rfl rfl | exact le_k (congrArg _ e2'.symm))
              · have hge2 : V.length ≤ s := by have := of_decide_eq_false h2; simp only [ea] at this; omega
                repeat' first | refine aw_seq ?_ | refine aw_region ?_ | refine aw_lex [] ?_ | (refine isA ?_; refine do_F rfl ?_) | (refine isL ?_; refine lex_F rfl (by kernel_rfl) rfl rfl ?_) | (refine isLg rfl ?_; refine lex_S rfl (by kernel_rfl) rfl rfl ?_) | refine aops_nil ?_ | refine lex_done _ rfl (by kernel_rfl) ?_ | refine aw_ct rfl ?_ | refine aw_cf rfl ?_ | refine aw_block ?_ | with_reducible refine then_n ?_ | refine aw_skip ?_ | refine aw_exit ?_ | (with_reducible first | refine then_x ?_ | refine then_r ?_ | refine block_x ?_ | refine block_n ?_ | refine block_r ?_) | refine aw_ret ?_
                refine ⟨⟨(2 * s, U ++ V), by simp only; omega, full_last j3 (by omega) (blk_srt j4 hge2), j2⟩, by simp only; omega, ?_⟩
                exact subm 1 [0] rfl rfl fix1 (by decide) (.cons rfl rfl rfl rfl (les_refl (flat_noH _ _)) .nil) (by
                  repeat' first | exact les_nil | refine les_cons ?_ ?_ | exact le_any | exact le_refl rfl | exact le_sl rfl rfl | exact le_k (congrArg _ e2'.symm))
        · have hge : xs.length ≤ s := by have := of_decide_eq_false h; simp only at this; omega
          have e : ys = srtV xs := srtV_of (blk_srt k2 (by omega)) k3
          repeat' first | refine aw_seq ?_ | refine aw_region ?_ | refine aw_lex [] ?_ | (refine isA ?_; refine do_F rfl ?_) | (refine isL ?_; refine lex_F rfl (by kernel_rfl) rfl rfl ?_) | (refine isLg rfl ?_; refine lex_S rfl (by kernel_rfl) rfl rfl ?_) | exact finMv 1 [0] fix1 (by decide) (.cons rfl rfl rfl rfl (les_eq (congrArg rwT.flat e) (flat_noH _ _)) .nil) | refine aops_nil ?_ | refine lex_done _ rfl (by kernel_rfl) ?_ | refine aw_ct rfl ?_ | refine aw_cf rfl ?_ | refine aw_block ?_ | with_reducible refine then_n ?_ | refine aw_skip ?_ | refine aw_exit ?_ | (with_reducible first | refine then_x ?_ | refine then_r ?_ | refine block_x ?_ | refine block_n ?_ | refine block_r ?_) | refine aw_ret ?_

/-- Arguments that mean no less. -/
theorem margs {P : Program} {f : FuncId} {cargs cargs' : List V} {hs : List Reg} {r : V} {hs' : List Reg} {al : Bool} (h : Meets P f cargs hs r hs' al) (hl : cargs'.length = cargs.length) (ha : ∀ A w φ g, Rels A w φ cargs' g → Rels A w φ cargs g) : Meets P f cargs' hs r hs' al :=
  fun A φ w xs hok hr hs => h A φ w xs hok (ha _ _ _ _ hr) (hs.trans hl)
theorem c_sortS (xs : List Rw) (hl : xs.length ≤ 100000000) : Meets Go.Proofs.Try.prog 134 [.sl 0 0 xs.length, .fn 77 []] [rwR xs] (.tup []) [rwR (srtV xs)] true := by
  refine meets_of [] Go.Proofs.Try.func134 rfl rfl ?_
  simp only [Go.Proofs.Try.ntmps134, List.length_cons, List.length_nil, Nat.reduceAdd, Nat.reduceSub, List.replicate_succ, List.replicate_zero, List.cons_append, List.nil_append]
  repeat' first | refine aw_seq ?_ | refine aw_region ?_ | refine aw_lex [] ?_ | (refine isA ?_; refine do_F rfl ?_) | (refine isL ?_; refine lex_F rfl (by kernel_rfl) rfl rfl ?_) | (refine isLg rfl ?_; refine lex_S rfl (by kernel_rfl) rfl rfl ?_) | (refine isAc 160 ?_; refine do_R rfl (step_callMs (K := []) (Rs' := [_]) [0] (by decide) rfl (c_stable xs hl) (.cons rfl rfl rfl (flat_noH _ _) (flat_noH _ _) .nil) (.cons (.sl rfl) (.cons (.same rfl) (.cons (.same rfl) .nil))) (fun q hq => by cases hq) rfl) rfl ?_) | (refine isLc 160 rfl ?_; refine lex_R rfl (by kernel_rfl) rfl (step_callMs (K := []) (Rs' := [_]) [0] (by decide) rfl (c_stable xs hl) (.cons rfl rfl rfl (flat_noH _ _) (flat_noH _ _) .nil) (.cons (.sl rfl) (.cons (.same rfl) (.cons (.same rfl) .nil))) (fun q hq => by cases hq) rfl) rfl ?_) | exact finMv 1 [0] fix1 (by decide) (.cons rfl rfl rfl rfl (les_refl (flat_noH _ _)) .nil) | refine aops_nil ?_ | refine lex_done _ rfl (by kernel_rfl) ?_ | refine aw_ct rfl ?_ | refine aw_cf rfl ?_ | refine aw_block ?_ | with_reducible refine then_n ?_ | refine aw_skip ?_ | refine aw_exit ?_ | (with_reducible first | refine then_x ?_ | refine then_r ?_ | refine block_x ?_ | refine block_n ?_ | refine block_r ?_) | refine aw_ret ?_
theorem c_sortK (xs : List Rw) (hl : xs.length ≤ 100000000) : Meets Go.Proofs.Try.prog 134 [.sl 0 0 xs.length, .k (.func (.func 77) #[] #[])] [rwR xs] (.tup []) [rwR (srtV xs)] true :=
  margs (c_sortS xs hl) rfl fun A w φ g h => by
    simp only [Rels, Rel] at h ⊢
    obtain ⟨h1, ⟨y, h2, rfl⟩, _⟩ := h
    exact ⟨h1, ⟨_, h2, #[], rfl, rfl, trivial⟩, trivial⟩
end Go.Proofs.Ytkcicbigpbdjpaa.Ab.Pr

/- SoB0 -/
namespace Go.Proofs.Ytkcicbigpbdjpaa.Ab
open Go.RowKit

def rwI (x : Rw) : List Int := [x.a, x.b, x.c]
def rwD (x y : Rw) : Bool := decide (rwI x = rwI y)
theorem neqRw {o : Oper} {ρ : Operand → V} {H : List Reg} {t' : TypeId} {x y : Operand} {a b : Rw} (ho : o.op = .binOp .neq 71 x y t') (hx : ρ x = .agg (rwE a)) (hy : ρ y = .agg (rwE b)) : Step Go.Proofs.Try.prog o ρ H (B (!rwD a b)) H :=
  step_neqA (us := rwI a) (bs := rwI b) _ (intFs_of Go.Proofs.Try.underlying71 (by kernel_rfl) (by kernel_rfl) (by kernel_rfl)) ho hx hy rfl rfl
theorem rwD_iff {x y : Rw} : rwD x y = true ↔ x = y := by
  cases x; cases y
  simp [rwD, rwI]

def eqLd : List Rw → List Rw → Bool
  | [], [] => true
  | x :: xs, y :: ys => rwD x y && eqLd xs ys
  | _, _ => false
theorem eqLd_iff : ∀ {xs ys : List Rw}, eqLd xs ys = true ↔ xs = ys
  | [], [] => by simp [eqLd]
  | x :: xs, y :: ys => by simp only [eqLd, Bool.and_eq_true, rwD_iff, eqLd_iff, List.cons.injEq]
  | [], y :: ys => by simp [eqLd]
  | x :: xs, [] => by simp [eqLd]
theorem eqLd_len {xs ys : List Rw} (h : xs.length ≠ ys.length) : eqLd xs ys = false := by
  cases he : eqLd xs ys with
  | false => rfl
  | true => exact absurd (congrArg List.length (eqLd_iff.1 he)) h
theorem eqLd_at {xs ys : List Rw} {i : Nat} {x y : Rw} (hx : xs[i]? = some x) (hy : ys[i]? = some y) : eqLd (xs.drop i) (ys.drop i) = (rwD x y && eqLd (xs.drop (i + 1)) (ys.drop (i + 1))) := by
  rw [take_drop1 hx, take_drop1 hy, eqLd]
end Go.Proofs.Ytkcicbigpbdjpaa.Ab

/- PaN -/
namespace Go.Proofs.Ytkcicbigpbdjpaa.Ab.Pr
open Go.RowKit

section
variable {P : Program} {o : Oper} {ρ : Operand → V} {H : List Reg}
theorem run_eqD {fs : Array Field} {t : TypeId} (d : Nat) (hf : IntFs P t fs) {A : Nat → Prop} {w : World} {φ : List Hd} {us bs : List Int} {xs ys : Array Value} (ha : us.length = fs.size) (hb : bs.length = fs.size) (hx : Rels A w φ (us.map I) (fun i => xs[i]?)) (hy : Rels A w φ (bs.map I) (fun i => ys[i]?)) :
    (Op.equalIn (d + 2) t (.agg xs) (.agg ys)).run P w = .ok (decide (us = bs)) w := by
  have he : P.fieldsOf t = fs := by simp [Program.fieldsOf, hf.u]
  rw [run_equalIn_struct (P := P) w (d + 1) t xs ys (by rw [he]; exact hf.u) hf.held, he]
  refine eqf_ints (d := d) fs.toList us bs (by simpa using ha) (by simpa using hb) fun j f a b q1 q2 q3 => ?_
  obtain ⟨g1, g2, g3⟩ := hf.fs j f q1
  rw [g2]
  exact ⟨g1, g3, ints_at hx q2, ints_at hy q3⟩
/-- A struct of two structs of three numbers and of a bool. -/
structure PrFs (P : Program) (t rt bt : TypeId) (f0 f1 f2 : Field) : Prop where
  u : P.underlying t = some (.struct #[f0, f1, f2])
  held : P.stoodInHeld t = false
  guard : P.eqGuardType P.depth t = false
  n0 : (f0.name == "_") = false
  n1 : (f1.name == "_") = false
  n2 : (f2.name == "_") = false
  t0 : f0.type = rt
  t1 : f1.type = rt
  t2 : f2.type = bt
  o0 : f0.offset = 0
  o1 : f1.offset = 3
  o2 : f2.offset = 6
  b : P.underlying bt = some .bool
theorem part_rel {A : Nat → Prop} {w : World} {φ : List Hd} {cs : List V} {xs : Array Value} {off n : Nat} (h : Rels A w φ cs (fun i => xs[i]?)) (hl : off + n ≤ cs.length) : Rels A w φ ((cs.drop off).take n) (fun i => (xs.extract off (off + n))[i]?) := by
  refine rels_congr (rels_take (rels_drop h off) n) fun i hi => ?_
  have hi' : i < n := by simp at hi; omega
  obtain ⟨y, h1, _⟩ := rels_get h (i := off + i) (List.getElem?_eq_getElem (by omega))
  have hs : off + i < xs.size := (Array.getElem?_eq_some_iff.1 h1).1
  rw [Array.getElem?_extract]
  simp only [show i < min (off + n) xs.size - off by omega, if_true]
def prD (a b : Rw) : Bool := Go.Proofs.Ytkcicbigpbdjpaa.Ab.rwD a.l b.l && (Go.Proofs.Ytkcicbigpbdjpaa.Ab.rwD a.r b.r && (a.m == b.m))
theorem run_eqP {t rt bt : TypeId} {f0 f1 f2 : Field} {fr : Array Field} (hf : PrFs P t rt bt f0 f1 f2) (hr : IntFs P rt fr) (h3 : fr.size = 3) [hg : Ag P rt 3] {A : Nat → Prop} {w : World} {φ : List Hd} {a b : Rw} {xs ys : Array Value} (hx : Rels A w φ (rwE a) (fun i => xs[i]?)) (hy : Rels A w φ (rwE b) (fun i => ys[i]?)) :
    (Op.equalIn 10000 t (.agg xs) (.agg ys)).run P w = .ok (prD a b) w := by
  have he : P.fieldsOf t = #[f0, f1, f2] := by simp [Program.fieldsOf, hf.u]
  rw [show (10000 : Nat) = 9999 + 1 from rfl, run_equalIn_struct (P := P) w 9999 t xs ys (by rw [he]; exact hf.u) hf.held, he]
  have p0 : ∀ zs : Array Value, (part rt zs 0).run P w = .ok (.agg (zs.extract 0 (0 + 3))) w := fun zs => by simp [part, hg.a w, hg.s w]
  have p1 : ∀ zs : Array Value, (part rt zs 3).run P w = .ok (.agg (zs.extract 3 (3 + 3))) w := fun zs => by simp [part, hg.a w, hg.s w]
  have e0 := run_eqD (P := P) 9997 hr (us := Go.Proofs.Ytkcicbigpbdjpaa.Ab.rwI a.l) (bs := Go.Proofs.Ytkcicbigpbdjpaa.Ab.rwI b.l) (by rw [h3]; rfl) (by rw [h3]; rfl) (part_rel (off := 0) (n := 3) hx (by show 0 + 3 ≤ 7; decide)) (part_rel (off := 0) (n := 3) hy (by show 0 + 3 ≤ 7; decide))
  have e1 := run_eqD (P := P) 9997 hr (us := Go.Proofs.Ytkcicbigpbdjpaa.Ab.rwI a.r) (bs := Go.Proofs.Ytkcicbigpbdjpaa.Ab.rwI b.r) (by rw [h3]; rfl) (by rw [h3]; rfl) (part_rel (off := 3) (n := 3) hx (by show 3 + 3 ≤ 7; decide)) (part_rel (off := 3) (n := 3) hy (by show 3 + 3 ≤ 7; decide))
  have m0 : ∀ (zs : Array Value) (c : Rw), Rels A w φ (rwE c) (fun i => zs[i]?) → (part bt zs 6).run P w = .ok (.bool c.m) w := fun zs c hz => by
    obtain ⟨y, h1, h2⟩ := rels_get hz (i := 6) (c := B c.m) rfl
    simp only [Rel] at h2
    subst h2
    simp [part, isAgg, run_underlying hf.b, h1]
  have n0 : f0.name ≠ "_" := by simpa using hf.n0
  have n1 : f1.name ≠ "_" := by simpa using hf.n1
  have n2 : f2.name ≠ "_" := by simpa using hf.n2
  show (Op.eqFields 9999 xs ys [f0, f1, f2]).run P w = _
  have l3 : (Op.eqFields 9999 xs ys []).run P w = .ok true w := by simp [Op.eqFields]
  have l2 : (Op.eqFields 9999 xs ys [f2]).run P w = .ok (a.m == b.m) w := by
    rw [Op.eqFields, if_pos n2, hf.t2, hf.o2]
    simp only [Sem.run_bind, m0 xs a hx, m0 ys b hy, Result.andThen_ok, run_equalIn_bool w 9998 bt a.m b.m hf.b]
    cases hm : (a.m == b.m)
    · simp
    · simpa using l3
  have l1 : (Op.eqFields 9999 xs ys [f1, f2]).run P w = .ok (Go.Proofs.Ytkcicbigpbdjpaa.Ab.rwD a.r b.r && (a.m == b.m)) w := by
    rw [Op.eqFields, if_pos n1, hf.t1, hf.o1]
    simp only [Sem.run_bind, p1, e1, Result.andThen_ok]
    show (if (!Go.Proofs.Ytkcicbigpbdjpaa.Ab.rwD a.r b.r) = true then pure false else Op.eqFields 9999 xs ys [f2]).run P w = _
    cases hm : Go.Proofs.Ytkcicbigpbdjpaa.Ab.rwD a.r b.r
    · simp
    · simpa using l2
  rw [Op.eqFields, if_pos n0, hf.t0, hf.o0]
  simp only [Sem.run_bind, p0, e0, Result.andThen_ok]
  show (if (!Go.Proofs.Ytkcicbigpbdjpaa.Ab.rwD a.l b.l) = true then pure false else Op.eqFields 9999 xs ys [f1, f2]).run P w = _
  unfold prD
  cases hm : Go.Proofs.Ytkcicbigpbdjpaa.Ab.rwD a.l b.l
  · simp
  · simpa using l1
theorem step_neqP {t t' rt bt : TypeId} {x y : Operand} {a b : Rw} {f0 f1 f2 : Field} {fr : Array Field} (hf : PrFs P t rt bt f0 f1 f2) (hr : IntFs P rt fr) (h3 : fr.size = 3) [hg : Ag P rt 3] (ho : o.op = .binOp .neq t x y t') (hx : ρ x = .agg (rwE a)) (hy : ρ y = .agg (rwE b)) : Step P o ρ H (.k (.bool (!prD a b))) H := step_pure fun A φ ac w _ h => by
  have h1 := h x (by simp [ho, Op.operands])
  have h2 := h y (by simp [ho, Op.operands])
  rw [hx, Rel] at h1
  rw [hy, Rel] at h2
  obtain ⟨xs, e1, _, r1⟩ := h1
  obtain ⟨ys, e2, _, r2⟩ := h2
  refine ⟨.bool (!prD a b), ?_, by simp [Rel]⟩
  have hr : ((do eqGuard .neq t x y (.agg xs) (.agg ys); binOp .neq t (.agg xs) (.agg ys) : Sem Value)).run P w = .ok (.bool (!prD a b)) w := by
    rw [Sem.run_bind, run_eqGuard_agg w .neq t x y xs ys hf.guard]
    simp only [Result.andThen_ok, run_neq_struct, run_eqP hf hr h3 r1 r2]
  simp only [execOp, ho, e1, e2]
  rw [Sem.run_bind, hr]
  rfl
end
theorem prFs : ∃ f0 f1 f2, PrFs Go.Proofs.Try.prog 73 71 4 f0 f1 f2 :=
  ⟨_, _, _, Go.Proofs.Try.underlying73, by kernel_rfl, by kernel_rfl, by kernel_rfl, by kernel_rfl, by kernel_rfl, by kernel_rfl, by kernel_rfl, by kernel_rfl, by kernel_rfl, by kernel_rfl, by kernel_rfl, Go.Proofs.Try.underlying4⟩
theorem neqPr {o : Oper} {ρ : Operand → V} {H : List Reg} {t' : TypeId} {x y : Operand} {a b : Rw} (ho : o.op = .binOp .neq 73 x y t') (hx : ρ x = .agg (rwE a)) (hy : ρ y = .agg (rwE b)) : Step Go.Proofs.Try.prog o ρ H (B (!prD a b)) H := by
  obtain ⟨f0, f1, f2, hf⟩ := prFs
  exact step_neqP hf (intFs_of Go.Proofs.Try.underlying71 (by kernel_rfl) (by kernel_rfl) (by kernel_rfl)) (by kernel_rfl) ho hx hy
theorem prD_iff {x y : Rw} : prD x y = true ↔ x = y := by
  obtain ⟨a, b, c⟩ := x
  obtain ⟨d, e, f⟩ := y
  simp [prD, rwD_iff]
def eqLd : List Rw → List Rw → Bool
  | [], [] => true
  | x :: xs, y :: ys => prD x y && eqLd xs ys
  | _, _ => false
theorem eqLd_iff : ∀ {xs ys : List Rw}, eqLd xs ys = true ↔ xs = ys
  | [], [] => by simp [eqLd]
  | x :: xs, y :: ys => by simp only [eqLd, Bool.and_eq_true, prD_iff, eqLd_iff, List.cons.injEq]
  | [], y :: ys => by simp [eqLd]
  | x :: xs, [] => by simp [eqLd]
theorem eqLd_len {xs ys : List Rw} (h : xs.length ≠ ys.length) : eqLd xs ys = false := by
  cases he : eqLd xs ys with
  | false => rfl
  | true => exact absurd (congrArg List.length (eqLd_iff.1 he)) h
theorem eqLd_at {xs ys : List Rw} {i : Nat} {x y : Rw} (hx : xs[i]? = some x) (hy : ys[i]? = some y) : eqLd (xs.drop i) (ys.drop i) = (prD x y && eqLd (xs.drop (i + 1)) (ys.drop (i + 1))) := by
  rw [take_drop1 hx, take_drop1 hy, eqLd]
def eqB (xs ys : List Rw) : Bool := eqLd (srtV xs) (srtV ys)
theorem eqB_iff {xs ys : List Rw} : eqB xs ys = true ↔ xs.Perm ys := by
  unfold eqB
  rw [eqLd_iff]
  constructor
  · intro h
    exact (srtV_perm xs).symm.trans (by rw [h]; exact srtV_perm ys)
  · intro h
    exact srtV_of (srtV_srt xs) ((srtV_perm xs).trans h)
theorem c_equal (us vs : List Rw) (hl : us.length ≤ 1000000000) : Meets Go.Proofs.Try.prog 135 [rwL us, rwL vs] [] (B (eqLd us vs)) [] false := by
  refine meets_of [4] Go.Proofs.Try.func135 rfl rfl ?_
  simp only [Go.Proofs.Try.ntmps135, List.length_cons, List.length_nil, Nat.reduceAdd, Nat.reduceSub, List.replicate_succ, List.replicate_zero, List.cons_append, List.nil_append]
  repeat' first | refine aw_seq ?_ | refine aw_region ?_ | refine aw_lex [] ?_ | (refine isA ?_; refine do_F rfl ?_) | (refine isL ?_; refine lex_F rfl (by kernel_rfl) rfl rfl ?_) | (refine isLg rfl ?_; refine lex_S rfl (by kernel_rfl) rfl rfl ?_) | refine aops_nil ?_ | refine lex_done _ rfl (by kernel_rfl) ?_ | refine aw_ct rfl ?_ | refine aw_cf rfl ?_ | refine aw_block ?_ | with_reducible refine then_n ?_ | refine aw_skip ?_ | refine aw_exit ?_ | (with_reducible first | refine then_x ?_ | refine then_r ?_ | refine block_x ?_ | refine block_n ?_ | refine block_r ?_) | refine aw_ret ?_
  refine aw_cond rfl (fun h => ?_) (fun h => ?_)
  · have hne : us.length ≠ vs.length := by have : ¬ ((us.length : Int) = vs.length) := (by simpa using h); omega
    repeat' first | refine aw_seq ?_ | refine aw_region ?_ | refine aw_lex [] ?_ | (refine isA ?_; refine do_F rfl ?_) | (refine isL ?_; refine lex_F rfl (by kernel_rfl) rfl rfl ?_) | (refine isLg rfl ?_; refine lex_S rfl (by kernel_rfl) rfl rfl ?_) | exact fin1 rfl rfl (by rw [eqLd_len hne]) | refine aops_nil ?_ | refine lex_done _ rfl (by kernel_rfl) ?_ | refine aw_ct rfl ?_ | refine aw_cf rfl ?_ | refine aw_block ?_ | with_reducible refine then_n ?_ | refine aw_skip ?_ | refine aw_exit ?_ | (with_reducible first | refine then_x ?_ | refine then_r ?_ | refine block_x ?_ | refine block_n ?_ | refine block_r ?_) | refine aw_ret ?_
  have he : us.length = vs.length := by have : ((us.length : Int) = vs.length) := (by simpa using h); omega
  repeat' first | refine aw_seq ?_ | refine aw_region ?_ | refine aw_lex [] ?_ | (refine isA ?_; refine do_F rfl ?_) | (refine isL ?_; refine lex_F rfl (by kernel_rfl) rfl rfl ?_) | (refine isLg rfl ?_; refine lex_S rfl (by kernel_rfl) rfl rfl ?_) | refine aops_nil ?_ | refine lex_done _ rfl (by kernel_rfl) ?_ | refine aw_ct rfl ?_ | refine aw_cf rfl ?_ | refine aw_block ?_ | with_reducible refine then_n ?_ | refine aw_skip ?_ | refine aw_exit ?_ | (with_reducible first | refine then_x ?_ | refine then_r ?_ | refine block_x ?_ | refine block_n ?_ | refine block_r ?_) | refine aw_ret ?_
  refine aw_loop (α := { i : Nat // i ≤ us.length ∧ eqLd (us.drop i) (vs.drop i) = eqLd us vs }) (fun i => ⟨[rwL us, rwL vs, .any, .any, .any, .any, .any, .any, .any, .any, .any, .any, I us.length, I i.1, .any, .any, .any, .any, .any, .any, .any, .any, .any, .any, .any, .any], [], 0⟩) (fun i => us.length - i.1) ⟨0, Nat.zero_le _, rfl⟩ ?_ ?_
  · exact sub_id rfl (by repeat' first | exact EqS.nil | refine EqS.any ?_ | refine EqS.same rfl ?_)
  · rintro ⟨i, hi, hq⟩
    repeat' first | refine aw_seq ?_ | refine aw_region ?_ | refine aw_lex [] ?_ | (refine isA ?_; refine do_F rfl ?_) | (refine isL ?_; refine lex_F rfl (by kernel_rfl) rfl rfl ?_) | (refine isLg rfl ?_; refine lex_S rfl (by kernel_rfl) rfl rfl ?_) | refine aops_nil ?_ | refine lex_done _ rfl (by kernel_rfl) ?_ | refine aw_ct rfl ?_ | refine aw_cf rfl ?_ | refine aw_block ?_ | with_reducible refine then_n ?_ | refine aw_skip ?_ | refine aw_exit ?_ | (with_reducible first | refine then_x ?_ | refine then_r ?_ | refine block_x ?_ | refine block_n ?_ | refine block_r ?_) | refine aw_ret ?_
    refine aw_cond rfl (fun h => ?_) (fun h => ?_)
    · have hlt : i < us.length := by simpa using h
      obtain ⟨x, hx⟩ : ∃ z, us[i]? = some z := ⟨_, List.getElem?_eq_getElem hlt⟩
      obtain ⟨y, hy⟩ : ∃ z, vs[i]? = some z := ⟨_, List.getElem?_eq_getElem (by omega)⟩
      rw [eqLd_at hx hy] at hq
      repeat' first | refine aw_seq ?_ | refine aw_region ?_ | refine aw_lex [] ?_ | (refine isA ?_; refine do_F rfl ?_) | (refine isL ?_; refine lex_F rfl (by kernel_rfl) rfl rfl ?_) | (refine isLg rfl ?_; refine lex_S rfl (by kernel_rfl) rfl rfl ?_) | (refine isAi (x := .tmp 16) ?_; refine do_R rfl (ia_l (t := rwT) (z := x) rfl rfl rfl rfl (Int.natCast_nonneg i) hx) rfl ?_) | (refine isLi (x := .tmp 16) rfl ?_; refine lex_R rfl (by kernel_rfl) rfl (ia_l (t := rwT) (z := x) rfl rfl rfl rfl (Int.natCast_nonneg i) hx) rfl ?_) | (refine isAi (x := .tmp 20) ?_; refine do_R rfl (ia_l (t := rwT) (z := y) rfl rfl rfl rfl (Int.natCast_nonneg i) hy) rfl ?_) | (refine isLi (x := .tmp 20) rfl ?_; refine lex_R rfl (by kernel_rfl) rfl (ia_l (t := rwT) (z := y) rfl rfl rfl rfl (Int.natCast_nonneg i) hy) rfl ?_) | refine do_R rfl (neqPr rfl rfl rfl) rfl ?_ | refine lex_R rfl (by kernel_rfl) rfl (neqPr rfl rfl rfl) rfl ?_ | refine aops_nil ?_ | refine lex_done _ rfl (by kernel_rfl) ?_ | refine aw_ct rfl ?_ | refine aw_cf rfl ?_ | refine aw_block ?_ | with_reducible refine then_n ?_ | refine aw_skip ?_ | refine aw_exit ?_ | (with_reducible first | refine then_x ?_ | refine then_r ?_ | refine block_x ?_ | refine block_n ?_ | refine block_r ?_) | refine aw_ret ?_
      refine aw_cond rfl (fun h1 => ?_) (fun h1 => ?_)
      · have h2 : prD x y = false := by simpa using h1
        rw [h2, Bool.false_and] at hq
        repeat' first | refine aw_seq ?_ | refine aw_region ?_ | refine aw_lex [] ?_ | (refine isA ?_; refine do_F rfl ?_) | (refine isL ?_; refine lex_F rfl (by kernel_rfl) rfl rfl ?_) | (refine isLg rfl ?_; refine lex_S rfl (by kernel_rfl) rfl rfl ?_) | exact fin1 rfl rfl (congrArg B hq) | refine aops_nil ?_ | refine lex_done _ rfl (by kernel_rfl) ?_ | refine aw_ct rfl ?_ | refine aw_cf rfl ?_ | refine aw_block ?_ | with_reducible refine then_n ?_ | refine aw_skip ?_ | refine aw_exit ?_ | (with_reducible first | refine then_x ?_ | refine then_r ?_ | refine block_x ?_ | refine block_n ?_ | refine block_r ?_) | refine aw_ret ?_
      · have h2 : prD x y = true := by simpa using h1
        rw [h2, Bool.true_and] at hq
        repeat' first | refine aw_seq ?_ | refine aw_region ?_ | refine aw_lex [] ?_ | (refine isA ?_; refine do_F rfl ?_) | (refine isL ?_; refine lex_F rfl (by kernel_rfl) rfl rfl ?_) | (refine isLg rfl ?_; refine lex_S rfl (by kernel_rfl) rfl rfl ?_) | refine aops_nil ?_ | refine lex_done _ rfl (by kernel_rfl) ?_ | refine aw_ct rfl ?_ | refine aw_cf rfl ?_ | refine aw_block ?_ | with_reducible refine then_n ?_ | refine aw_skip ?_ | refine aw_exit ?_ | (with_reducible first | refine then_x ?_ | refine then_r ?_ | refine block_x ?_ | refine block_n ?_ | refine block_r ?_) | refine aw_ret ?_
        refine ⟨⟨i + 1, hlt, hq⟩, by simp only; omega, ?_⟩
        exact sub_id rfl (by repeat' first | exact EqS.nil | refine EqS.any ?_ | refine EqS.same rfl ?_ | refine EqS.same (i_succ (by assumption) (by omega)) ?_)
    · have hge : i = us.length := by
        have : ¬ ((i : Int) < us.length) := by simpa using h
        omega
      subst hge
      have hq' : eqLd us vs = true := by rw [← hq, List.drop_length, he, List.drop_length]; rfl
      repeat' first | refine aw_seq ?_ | refine aw_region ?_ | refine aw_lex [] ?_ | (refine isA ?_; refine do_F rfl ?_) | (refine isL ?_; refine lex_F rfl (by kernel_rfl) rfl rfl ?_) | (refine isLg rfl ?_; refine lex_S rfl (by kernel_rfl) rfl rfl ?_) | exact fin1 rfl rfl (by rw [hq']) | refine aops_nil ?_ | refine lex_done _ rfl (by kernel_rfl) ?_ | refine aw_ct rfl ?_ | refine aw_cf rfl ?_ | refine aw_block ?_ | with_reducible refine then_n ?_ | refine aw_skip ?_ | refine aw_exit ?_ | (with_reducible first | refine then_x ?_ | refine then_r ?_ | refine block_x ?_ | refine block_n ?_ | refine block_r ?_) | refine aw_ret ?_
end Go.Proofs.Ytkcicbigpbdjpaa.Ab.Pr

/- PaO -/
namespace Go.Proofs.Ytkcicbigpbdjpaa.Ab.Pr
open Go.RowKit

theorem c_seqB (xs ys : List Rw) (h1 : xs.length ≤ 100000000) (h2 : ys.length ≤ 100000000) : Meets Go.Proofs.Try.prog 63 [rwL xs, rwL ys] [] (B (eqB xs ys)) [] false := by
  have s1 := (c_ssort xs h1).frozen (pur_row rfl)
  have s2 := (c_ssort ys h2).frozen (pur_row rfl)
  have l1 := srtV_len xs
  have l2 := srtV_len ys
  show Meets Go.Proofs.Try.prog 63 [rwL xs, rwL ys] [] (B (eqLd (srtV xs) (srtV ys))) [] false
  generalize srtV xs = us at s1 l1 ⊢
  generalize srtV ys = vs at s2 l2 ⊢
  refine meets_of [4] Go.Proofs.Try.func63 rfl rfl ?_
  simp only [Go.Proofs.Try.ntmps63, List.length_cons, List.length_nil, Nat.reduceAdd, Nat.reduceSub, List.replicate_succ, List.replicate_zero, List.cons_append, List.nil_append]
  repeat' first | refine aw_seq ?_ | refine aw_region ?_ | refine aw_lex [] ?_ | (refine isA ?_; refine do_F rfl ?_) | (refine isL ?_; refine lex_F rfl (by kernel_rfl) rfl rfl ?_) | (refine isLg rfl ?_; refine lex_S rfl (by kernel_rfl) rfl rfl ?_) | (refine isAc 132 (x := #[.tmp 8]) ?_; refine do_R rfl (st_call rfl s1 (.cons (.same rfl) .nil) rfl) rfl ?_) | (refine isLc 132 (x := #[.tmp 8]) rfl ?_; refine lex_R rfl (by kernel_rfl) rfl (st_call rfl s1 (.cons (.same rfl) .nil) rfl) rfl ?_) | (refine isAc 132 (x := #[.tmp 10]) ?_; refine do_R rfl (st_call rfl s2 (.cons (.same rfl) .nil) rfl) rfl ?_) | (refine isLc 132 (x := #[.tmp 10]) rfl ?_; refine lex_R rfl (by kernel_rfl) rfl (st_call rfl s2 (.cons (.same rfl) .nil) rfl) rfl ?_) | refine aops_nil ?_ | refine lex_done _ rfl (by kernel_rfl) ?_ | refine aw_ct rfl ?_ | refine aw_cf rfl ?_ | refine aw_block ?_ | with_reducible refine then_n ?_ | refine aw_skip ?_ | refine aw_exit ?_ | (with_reducible first | refine then_x ?_ | refine then_r ?_ | refine block_x ?_ | refine block_n ?_ | refine block_r ?_) | refine aw_ret ?_
  refine aw_cond rfl (fun h => ?_) (fun h => ?_)
  · have hne : us.length ≠ vs.length := by have : ¬ ((us.length : Int) = vs.length) := (by simpa using h); omega
    repeat' first | refine aw_seq ?_ | refine aw_region ?_ | refine aw_lex [] ?_ | (refine isA ?_; refine do_F rfl ?_) | (refine isL ?_; refine lex_F rfl (by kernel_rfl) rfl rfl ?_) | (refine isLg rfl ?_; refine lex_S rfl (by kernel_rfl) rfl rfl ?_) | exact fin1 rfl rfl (by rw [eqLd_len hne]) | refine aops_nil ?_ | refine lex_done _ rfl (by kernel_rfl) ?_ | refine aw_ct rfl ?_ | refine aw_cf rfl ?_ | refine aw_block ?_ | with_reducible refine then_n ?_ | refine aw_skip ?_ | refine aw_exit ?_ | (with_reducible first | refine then_x ?_ | refine then_r ?_ | refine block_x ?_ | refine block_n ?_ | refine block_r ?_) | refine aw_ret ?_
  have he : us.length = vs.length := by have : ((us.length : Int) = vs.length) := (by simpa using h); omega
  repeat' first | refine aw_seq ?_ | refine aw_region ?_ | refine aw_lex [] ?_ | (refine isA ?_; refine do_F rfl ?_) | (refine isL ?_; refine lex_F rfl (by kernel_rfl) rfl rfl ?_) | (refine isLg rfl ?_; refine lex_S rfl (by kernel_rfl) rfl rfl ?_) | refine aops_nil ?_ | refine lex_done _ rfl (by kernel_rfl) ?_ | refine aw_ct rfl ?_ | refine aw_cf rfl ?_ | refine aw_block ?_ | with_reducible refine then_n ?_ | refine aw_skip ?_ | refine aw_exit ?_ | (with_reducible first | refine then_x ?_ | refine then_r ?_ | refine block_x ?_ | refine block_n ?_ | refine block_r ?_) | refine aw_ret ?_
  refine aw_loop (α := { i : Nat // i ≤ us.length ∧ eqLd (us.drop i) (vs.drop i) = eqLd us vs }) (fun i => ⟨[.any, .any, .any, .any, .any, rwL us, rwL vs, I i.1, .any, .any, .any, .any, .any, .any, .any, .any, .any, .any, .any, .any, .any, .any, .any, .any, .any, .any, .any, .any, .any, .any, .any, .any], [], 0⟩) (fun i => us.length - i.1) ⟨0, Nat.zero_le _, rfl⟩ ?_ ?_
  · exact sub_id rfl (by repeat' first | exact EqS.nil | refine EqS.any ?_ | refine EqS.same rfl ?_)
  · rintro ⟨i, hi, hq⟩
    repeat' first | refine aw_seq ?_ | refine aw_region ?_ | refine aw_lex [] ?_ | (refine isA ?_; refine do_F rfl ?_) | (refine isL ?_; refine lex_F rfl (by kernel_rfl) rfl rfl ?_) | (refine isLg rfl ?_; refine lex_S rfl (by kernel_rfl) rfl rfl ?_) | refine aops_nil ?_ | refine lex_done _ rfl (by kernel_rfl) ?_ | refine aw_ct rfl ?_ | refine aw_cf rfl ?_ | refine aw_block ?_ | with_reducible refine then_n ?_ | refine aw_skip ?_ | refine aw_exit ?_ | (with_reducible first | refine then_x ?_ | refine then_r ?_ | refine block_x ?_ | refine block_n ?_ | refine block_r ?_) | refine aw_ret ?_
    refine aw_cond rfl (fun h => ?_) (fun h => ?_)
    · have hlt : i < us.length := by simpa using h
      obtain ⟨x, hx⟩ : ∃ z, us[i]? = some z := ⟨_, List.getElem?_eq_getElem hlt⟩
      obtain ⟨y, hy⟩ : ∃ z, vs[i]? = some z := ⟨_, List.getElem?_eq_getElem (by omega)⟩
      rw [eqLd_at hx hy] at hq
      repeat' first | refine aw_seq ?_ | refine aw_region ?_ | refine aw_lex [] ?_ | (refine isA ?_; refine do_F rfl ?_) | (refine isL ?_; refine lex_F rfl (by kernel_rfl) rfl rfl ?_) | (refine isLg rfl ?_; refine lex_S rfl (by kernel_rfl) rfl rfl ?_) | (refine isAi (x := .tmp 23) ?_; refine do_R rfl (ia_l (t := rwT) (z := x) rfl rfl rfl rfl (Int.natCast_nonneg i) hx) rfl ?_) | (refine isLi (x := .tmp 23) rfl ?_; refine lex_R rfl (by kernel_rfl) rfl (ia_l (t := rwT) (z := x) rfl rfl rfl rfl (Int.natCast_nonneg i) hx) rfl ?_) | (refine isAi (x := .tmp 27) ?_; refine do_R rfl (ia_l (t := rwT) (z := y) rfl rfl rfl rfl (Int.natCast_nonneg i) hy) rfl ?_) | (refine isLi (x := .tmp 27) rfl ?_; refine lex_R rfl (by kernel_rfl) rfl (ia_l (t := rwT) (z := y) rfl rfl rfl rfl (Int.natCast_nonneg i) hy) rfl ?_) | refine do_R rfl (neqPr rfl rfl rfl) rfl ?_ | refine lex_R rfl (by kernel_rfl) rfl (neqPr rfl rfl rfl) rfl ?_ | refine aops_nil ?_ | refine lex_done _ rfl (by kernel_rfl) ?_ | refine aw_ct rfl ?_ | refine aw_cf rfl ?_ | refine aw_block ?_ | with_reducible refine then_n ?_ | refine aw_skip ?_ | refine aw_exit ?_ | (with_reducible first | refine then_x ?_ | refine then_r ?_ | refine block_x ?_ | refine block_n ?_ | refine block_r ?_) | refine aw_ret ?_
      refine aw_cond rfl (fun h1 => ?_) (fun h1 => ?_)
      · have h2 : prD x y = false := by simpa using h1
        rw [h2, Bool.false_and] at hq
        repeat' first | refine aw_seq ?_ | refine aw_region ?_ | refine aw_lex [] ?_ | (refine isA ?_; refine do_F rfl ?_) | (refine isL ?_; refine lex_F rfl (by kernel_rfl) rfl rfl ?_) | (refine isLg rfl ?_; refine lex_S rfl (by kernel_rfl) rfl rfl ?_) | exact fin1 rfl rfl (congrArg B hq) | refine aops_nil ?_ | refine lex_done _ rfl (by kernel_rfl) ?_ | refine aw_ct rfl ?_ | refine aw_cf rfl ?_ | refine aw_block ?_ | with_reducible refine then_n ?_ | refine aw_skip ?_ | refine aw_exit ?_ | (with_reducible first | refine then_x ?_ | refine then_r ?_ | refine block_x ?_ | refine block_n ?_ | refine block_r ?_) | refine aw_ret ?_
      · have h2 : prD x y = true := by simpa using h1
        rw [h2, Bool.true_and] at hq
        repeat' first | refine aw_seq ?_ | refine aw_region ?_ | refine aw_lex [] ?_ | (refine isA ?_; refine do_F rfl ?_) | (refine isL ?_; refine lex_F rfl (by kernel_rfl) rfl rfl ?_) | (refine isLg rfl ?_; refine lex_S rfl (by kernel_rfl) rfl rfl ?_) | refine aops_nil ?_ | refine lex_done _ rfl (by kernel_rfl) ?_ | refine aw_ct rfl ?_ | refine aw_cf rfl ?_ | refine aw_block ?_ | with_reducible refine then_n ?_ | refine aw_skip ?_ | refine aw_exit ?_ | (with_reducible first | refine then_x ?_ | refine then_r ?_ | refine block_x ?_ | refine block_n ?_ | refine block_r ?_) | refine aw_ret ?_
        refine ⟨⟨i + 1, hlt, hq⟩, by simp only; omega, ?_⟩
        exact sub_id rfl (by repeat' first | exact EqS.nil | refine EqS.any ?_ | refine EqS.same rfl ?_ | refine EqS.same (i_succ (by assumption) (by omega)) ?_)
    · have hge : i = us.length := by
        have : ¬ ((i : Int) < us.length) := by simpa using h
        omega
      subst hge
      have hq' : eqLd us vs = true := by rw [← hq, List.drop_length, he, List.drop_length]; rfl
      repeat' first | refine aw_seq ?_ | refine aw_region ?_ | refine aw_lex [] ?_ | (refine isA ?_; refine do_F rfl ?_) | (refine isL ?_; refine lex_F rfl (by kernel_rfl) rfl rfl ?_) | (refine isLg rfl ?_; refine lex_S rfl (by kernel_rfl) rfl rfl ?_) | exact fin1 rfl rfl (by rw [hq']) | refine aops_nil ?_ | refine lex_done _ rfl (by kernel_rfl) ?_ | refine aw_ct rfl ?_ | refine aw_cf rfl ?_ | refine aw_block ?_ | with_reducible refine then_n ?_ | refine aw_skip ?_ | refine aw_exit ?_ | (with_reducible first | refine then_x ?_ | refine then_r ?_ | refine block_x ?_ | refine block_n ?_ | refine block_r ?_) | refine aw_ret ?_
theorem c_ieqB (xs ys : List Rw) (h1 : xs.length ≤ 100000000) (h2 : ys.length ≤ 100000000) : Meets Go.Proofs.Try.prog 65 [rwL xs, rwL ys] [] (B (eqB xs ys)) [] false := by
  have l1 := srtV_len xs
  have l2 := srtV_len ys
  refine meets_of [4] Go.Proofs.Try.func65 rfl rfl ?_
  simp only [Go.Proofs.Try.ntmps65, List.length_cons, List.length_nil, Nat.reduceAdd, Nat.reduceSub, List.replicate_succ, List.replicate_zero, List.cons_append, List.nil_append]
  repeat' first | refine aw_seq ?_ | refine aw_region ?_ | refine aw_lex [] ?_ | (refine isA ?_; refine do_F rfl ?_) | (refine isL ?_; refine lex_F rfl (by kernel_rfl) rfl rfl ?_) | (refine isLg rfl ?_; refine lex_S rfl (by kernel_rfl) rfl rfl ?_) | (refine isAp ?_; refine do_R rfl (apn_l (T := rwT) (xs := xs) rfl rfl rfl rfl (by omega) rfl) rfl ?_) | (refine isLp rfl ?_; refine lex_R rfl (by kernel_rfl) rfl (apn_l (T := rwT) (xs := xs) rfl rfl rfl rfl (by omega) rfl) rfl ?_) | (refine isAp ?_; refine do_R rfl (apn_l (T := rwT) (xs := ys) rfl rfl rfl rfl (by omega) rfl) rfl ?_) | (refine isLp rfl ?_; refine lex_R rfl (by kernel_rfl) rfl (apn_l (T := rwT) (xs := ys) rfl rfl rfl rfl (by omega) rfl) rfl ?_) | (refine isAc 134 ?_; refine do_R rfl (step_callMs (K := []) (Rs' := [_]) [0] (by decide) rfl (c_sortK xs h1) (.cons rfl rfl rfl (flat_noH _ _) (flat_noH _ _) .nil) (.cons (.sl rfl) (.cons (.same rfl) .nil)) (fun q hq => by cases hq) rfl) rfl ?_) | (refine isLc 134 rfl ?_; refine lex_R rfl (by kernel_rfl) rfl (step_callMs (K := []) (Rs' := [_]) [0] (by decide) rfl (c_sortK xs h1) (.cons rfl rfl rfl (flat_noH _ _) (flat_noH _ _) .nil) (.cons (.sl rfl) (.cons (.same rfl) .nil)) (fun q hq => by cases hq) rfl) rfl ?_) | (refine isAc 134 ?_; refine do_R rfl (step_callMs (K := []) (Rs' := [_]) [1] (by decide) rfl (c_sortK ys h2) (.cons rfl rfl rfl (flat_noH _ _) (flat_noH _ _) .nil) (.cons (.sl rfl) (.cons (.same rfl) .nil)) (fun q hq => by cases hq) rfl) rfl ?_) | (refine isLc 134 rfl ?_; refine lex_R rfl (by kernel_rfl) rfl (step_callMs (K := []) (Rs' := [_]) [1] (by decide) rfl (c_sortK ys h2) (.cons rfl rfl rfl (flat_noH _ _) (flat_noH _ _) .nil) (.cons (.sl rfl) (.cons (.same rfl) .nil)) (fun q hq => by cases hq) rfl) rfl ?_) | (refine isAc 135 ?_; refine do_R rfl (st_call rfl (c_equal (srtV xs) (srtV ys) (by omega)) (.cons (pur_L rfl rfl rfl l1.symm) (.cons (pur_L rfl rfl rfl l2.symm) .nil)) rfl) rfl ?_) | (refine isLc 135 rfl ?_; refine lex_R rfl (by kernel_rfl) rfl (st_call rfl (c_equal (srtV xs) (srtV ys) (by omega)) (.cons (pur_L rfl rfl rfl l1.symm) (.cons (pur_L rfl rfl rfl l2.symm) .nil)) rfl) rfl ?_) | exact fin1 rfl rfl rfl | refine aops_nil ?_ | refine lex_done _ rfl (by kernel_rfl) ?_ | refine aw_ct rfl ?_ | refine aw_cf rfl ?_ | refine aw_block ?_ | with_reducible refine then_n ?_ | refine aw_skip ?_ | refine aw_exit ?_ | (with_reducible first | refine then_x ?_ | refine then_r ?_ | refine block_x ?_ | refine block_n ?_ | refine block_r ?_) | refine aw_ret ?_
end Go.Proofs.Ytkcicbigpbdjpaa.Ab.Pr

/- JoE -/
namespace Go.Proofs.Ytkcicbigpbdjpaa.Ab.Pr
open Go.RowKit

def swp (p : Rw) : Rw := ⟨p.r, p.l, p.m⟩
theorem one1 (b : List Go.Proofs.Ytkcicbigpbdjpaa.Ab.Rw) (l : Go.Proofs.Ytkcicbigpbdjpaa.Ab.Rw) : oneJ 1 b l = matV l b := by
  have h := mat_len l b
  have e : c13 1 (cntV l b) = false := by simp [c13]
  rw [oneJ, e, cond_false, List.append_nil]
  rcases Nat.eq_zero_or_pos (cntV l b) with h0 | h0
  · rw [List.eq_nil_of_length_eq_zero (by omega : (matV l b).length = 0)]
    cases c6 1 (cntV l b) <;> rfl
  · have : c6 1 (cntV l b) = true := by simp [c6, h0]
    rw [this]; rfl
theorem fm_app {α β : Type} (p q : α → List β) : ∀ b : List α, (b.flatMap fun y => p y ++ q y).Perm (b.flatMap p ++ b.flatMap q)
  | [] => .refl _
  | y :: b => by
    simp only [List.flatMap_cons]
    refine ((fm_app p q b).append_left (p y ++ q y)).trans ?_
    rw [List.append_assoc, List.append_assoc]
    refine List.Perm.append_left _ ?_
    rw [← List.append_assoc, ← List.append_assoc]
    exact List.perm_append_comm.append_right _
theorem fm_nil {α β : Type} : ∀ b : List α, (b.flatMap fun _ => ([] : List β)) = []
  | [] => rfl
  | _ :: b => by rw [List.flatMap_cons, fm_nil b]; rfl
theorem fm_swap {α γ β : Type} (f : α → γ → List β) (b : List γ) : ∀ a : List α, (a.flatMap fun x => b.flatMap fun y => f x y).Perm (b.flatMap fun y => a.flatMap fun x => f x y)
  | [] => by simp only [List.flatMap_nil]; rw [fm_nil]
  | x :: a => by
    simp only [List.flatMap_cons]
    exact ((fm_swap f b a).append_left _).trans (fm_app _ _ b).symm
theorem fl_fm {α β : Type} (h : α → Bool) (m : α → β) : ∀ b : List α, (b.filter h).map m = b.flatMap fun y => cond (h y) [m y] []
  | [] => rfl
  | y :: b => by
    rw [List.flatMap_cons, ← fl_fm h m b, List.filter_cons]
    cases h y <;> rfl
theorem hit_comm (l r : Go.Proofs.Ytkcicbigpbdjpaa.Ab.Rw) : hit l r = hit r l := by simp only [hit, eq_comm]
theorem join_sym (a b : List Go.Proofs.Ytkcicbigpbdjpaa.Ab.Rw) : (joinV 1 a b).Perm ((joinV 1 b a).map swp) := by
  have e1 : joinV 1 a b = a.flatMap fun x => b.flatMap fun y => cond (hit x y) [(⟨x, y, true⟩ : Rw)] [] := by
    rw [joinV]
    congr 1
    funext x
    rw [one1, matV, fl_fm]
  have e2 : (joinV 1 b a).map swp = b.flatMap fun y => a.flatMap fun x => cond (hit x y) [(⟨x, y, true⟩ : Rw)] [] := by
    rw [joinV, List.map_flatMap]
    congr 1
    funext y
    rw [one1, matV, List.map_map, fl_fm]
    congr 1
    funext x
    rw [hit_comm y x]
    cases hit x y <;> rfl
  rw [e1, e2]
  exact fm_swap _ b a
theorem law_JoinSymmetry (xs : List Int) (hl0 : xs.length ≤ 9223372036854775807) : Meets Go.Proofs.Try.prog 10 [lstOf u8T xs] [] (B true) [] false := by
  refine meets_of [2] Go.Proofs.Try.func10 rfl rfl ?_
  simp only [Go.Proofs.Try.ntmps10, List.length_cons, List.length_nil, Nat.reduceAdd, Nat.reduceSub, List.replicate_succ, List.replicate_zero, List.cons_append, List.nil_append]
  repeat' first | refine aw_seq ?_ | refine aw_region ?_ | refine aw_lex [] ?_ | (refine isA ?_; refine do_F rfl ?_) | (refine isL ?_; refine lex_F rfl (by kernel_rfl) rfl rfl ?_) | (refine isLg rfl ?_; refine lex_S rfl (by kernel_rfl) rfl rfl ?_) | (refine isAc 15 ?_; refine do_R rfl (st_call rfl (c_bigJ xs) (.cons (.same rfl) .nil) rfl) rfl ?_) | (refine isLc 15 rfl ?_; refine lex_R rfl (by kernel_rfl) rfl (st_call rfl (c_bigJ xs) (.cons (.same rfl) .nil) rfl) rfl ?_) | refine aops_nil ?_ | refine lex_done _ rfl (by kernel_rfl) ?_ | refine aw_ct rfl ?_ | refine aw_cf rfl ?_ | refine aw_block ?_ | with_reducible refine then_n ?_ | refine aw_skip ?_ | refine aw_exit ?_ | (with_reducible first | refine then_x ?_ | refine then_r ?_ | refine block_x ?_ | refine block_n ?_ | refine block_r ?_) | refine aw_ret ?_
  refine aw_cond rfl (fun h => ?_) (fun h => ?_)
  · repeat' first | refine aw_seq ?_ | refine aw_region ?_ | refine aw_lex [] ?_ | (refine isA ?_; refine do_F rfl ?_) | (refine isL ?_; refine lex_F rfl (by kernel_rfl) rfl rfl ?_) | (refine isLg rfl ?_; refine lex_S rfl (by kernel_rfl) rfl rfl ?_) | exact fin1 rfl rfl rfl | refine aops_nil ?_ | refine lex_done _ rfl (by kernel_rfl) ?_ | refine aw_ct rfl ?_ | refine aw_cf rfl ?_ | refine aw_block ?_ | with_reducible refine then_n ?_ | refine aw_skip ?_ | refine aw_exit ?_ | (with_reducible first | refine then_x ?_ | refine then_r ?_ | refine block_x ?_ | refine block_n ?_ | refine block_r ?_) | refine aw_ret ?_
  have hl : xs.length ≤ 1000000000 := by have := of_decide_eq_false h; omega
  have d1 := c_drawRJ xs hl
  obtain ⟨_, _, la, lb⟩ := drj_ok xs
  generalize drjV xs = p at d1 la lb
  obtain ⟨k, a, b⟩ := p
  simp only at d1 la lb
  have x1 := (c_ijoin 1 a b (by omega) (by omega)).frozen (pur_row rfl)
  have y1 := (c_ijoin 1 b a (by omega) (by omega)).frozen (pur_row rfl)
  have hp := join_sym a b
  have hxl := hp.length_eq
  have hyl : (joinV 1 b a).length ≤ 1000 := by
    have := join_len 1 a b
    have h2 : b.length * (a.length + 1) ≤ 8 * 9 := Nat.mul_le_mul lb (by omega)
    omega
  rw [List.length_map] at hxl
  generalize joinV 1 a b = x at x1 hp hxl
  generalize joinV 1 b a = y at y1 hp hxl hyl
  repeat' first | refine aw_seq ?_ | refine aw_region ?_ | refine aw_lex [] ?_ | (refine isA ?_; refine do_F rfl ?_) | (refine isL ?_; refine lex_F rfl (by kernel_rfl) rfl rfl ?_) | (refine isLg rfl ?_; refine lex_S rfl (by kernel_rfl) rfl rfl ?_) | (refine isAc 67 ?_; refine do_R rfl (st_call rfl d1 (.cons (.same rfl) .nil) rfl) rfl ?_) | (refine isLc 67 rfl ?_; refine lex_R rfl (by kernel_rfl) rfl (st_call rfl d1 (.cons (.same rfl) .nil) rfl) rfl ?_) | (refine isAc 68 ?_; refine do_R rfl (st_call rfl x1 (.cons (.same rfl) (.cons (.same rfl) (.cons (.same rfl) .nil))) rfl) rfl ?_) | (refine isLc 68 rfl ?_; refine lex_R rfl (by kernel_rfl) rfl (st_call rfl x1 (.cons (.same rfl) (.cons (.same rfl) (.cons (.same rfl) .nil))) rfl) rfl ?_) | (refine isAc 68 ?_; refine do_R rfl (st_call rfl y1 (.cons (.same rfl) (.cons (.same rfl) (.cons (.same rfl) .nil))) rfl) rfl ?_) | (refine isLc 68 rfl ?_; refine lex_R rfl (by kernel_rfl) rfl (st_call rfl y1 (.cons (.same rfl) (.cons (.same rfl) (.cons (.same rfl) .nil))) rfl) rfl ?_) | refine aops_nil ?_ | refine lex_done _ rfl (by kernel_rfl) ?_ | refine aw_ct rfl ?_ | refine aw_cf rfl ?_ | refine aw_block ?_ | with_reducible refine then_n ?_ | refine aw_skip ?_ | refine aw_exit ?_ | (with_reducible first | refine then_x ?_ | refine then_r ?_ | refine block_x ?_ | refine block_n ?_ | refine block_r ?_) | refine aw_ret ?_
  refine aw_loop (α := { p : Nat × List Rw // p.1 ≤ y.length ∧ p.2 = (y.take p.1).map swp }) (fun p => ⟨[.any, .any, .any, .any, .any, .any, rwL x, rwL y, .sl 0 0 p.1.2.length, I p.1.1, .any, .any, .any, .any, .any, .any, .any, .any, .any, .any, .any, .any, .any, .any, .any, .any, .any, .any, .any, .any, .any, .any, .any, .any, .any, .any, .any, .any, .any, .any, .any, .any, .any, .any, .any, .any, .any, .any, .any, .any, .any, .any, .any], [rwR p.1.2], 0⟩) (fun p => y.length - p.1.1) ⟨(0, []), Nat.zero_le _, rfl⟩ ?_ ?_
  · exact sub0 [0] rfl rfl (by decide) (.cons rfl rfl rfl rfl (les_refl (flat_noH _ _)) .nil) (by repeat' first | exact les_nil | refine les_cons ?_ ?_ | exact le_any | exact le_refl rfl | exact le_sl rfl rfl | exact le_ptr rfl)
  · rintro ⟨⟨i, t⟩, hi, ht⟩
    simp only at hi ht
    have htl : t.length ≤ 1000 := by rw [ht]; simp; omega
    repeat' first | refine aw_seq ?_ | refine aw_region ?_ | refine aw_lex [] ?_ | (refine isA ?_; refine do_F rfl ?_) | (refine isL ?_; refine lex_F rfl (by kernel_rfl) rfl rfl ?_) | (refine isLg rfl ?_; refine lex_S rfl (by kernel_rfl) rfl rfl ?_) | refine aops_nil ?_ | refine lex_done _ rfl (by kernel_rfl) ?_ | refine aw_ct rfl ?_ | refine aw_cf rfl ?_ | refine aw_block ?_ | with_reducible refine then_n ?_ | refine aw_skip ?_ | refine aw_exit ?_ | (with_reducible first | refine then_x ?_ | refine then_r ?_ | refine block_x ?_ | refine block_n ?_ | refine block_r ?_) | refine aw_ret ?_
    refine aw_cond rfl (fun h => ?_) (fun h => ?_)
    · have hlt : i < y.length := by simpa using h
      obtain ⟨z, hz⟩ : ∃ z, y[i]? = some z := ⟨_, List.getElem?_eq_getElem hlt⟩
      repeat' first | (refine isLbs rfl ?_; refine lex_R rfl (by kernel_rfl) rfl (lit_of rfl rfl rfl rfl rfl) rfl ?_) | (refine isLp rfl ?_; refine lex_W rfl (by kernel_rfl) rfl (ap_l (t := rwT) (xs := t) (ys := [swp z]) rfl rfl rfl rfl (.lst _ _) (by simp; omega) rfl) rfl ?_) | refine aw_seq ?_ | refine aw_region ?_ | refine aw_lex [18] ?_ | (refine isA ?_; refine do_F rfl ?_) | (refine isL ?_; refine lex_F rfl (by kernel_rfl) rfl rfl ?_) | (refine isLg rfl ?_; refine lex_S rfl (by kernel_rfl) rfl rfl ?_) | (refine isAi (x := .tmp 32) ?_; refine do_R rfl (ia_l (t := rwT) (z := z) rfl rfl rfl rfl (Int.natCast_nonneg i) hz) rfl ?_) | (refine isLi (x := .tmp 32) rfl ?_; refine lex_R rfl (by kernel_rfl) rfl (ia_l (t := rwT) (z := z) rfl rfl rfl rfl (Int.natCast_nonneg i) hz) rfl ?_) | (refine isAi (x := .tmp 37) ?_; refine do_R rfl (ia_l (t := rwT) (z := z) rfl rfl rfl rfl (Int.natCast_nonneg i) hz) rfl ?_) | (refine isLi (x := .tmp 37) rfl ?_; refine lex_R rfl (by kernel_rfl) rfl (ia_l (t := rwT) (z := z) rfl rfl rfl rfl (Int.natCast_nonneg i) hz) rfl ?_) | (refine isAi (x := .tmp 42) ?_; refine do_R rfl (ia_l (t := rwT) (z := z) rfl rfl rfl rfl (Int.natCast_nonneg i) hz) rfl ?_) | (refine isLi (x := .tmp 42) rfl ?_; refine lex_R rfl (by kernel_rfl) rfl (ia_l (t := rwT) (z := z) rfl rfl rfl rfl (Int.natCast_nonneg i) hz) rfl ?_) | (refine isL ?_; refine lex_WF rfl (by kernel_rfl) rfl rfl ?_) | refine aops_nil ?_ | refine lex_done _ rfl (by kernel_rfl) ?_ | refine aw_ct rfl ?_ | refine aw_cf rfl ?_ | refine aw_block ?_ | with_reducible refine then_n ?_ | refine aw_skip ?_ | refine aw_exit ?_ | (with_reducible first | refine then_x ?_ | refine then_r ?_ | refine block_x ?_ | refine block_n ?_ | refine block_r ?_) | refine aw_ret ?_
      refine ⟨⟨(i + 1, t ++ [swp z]), hlt, by rw [List.take_add_one, hz, ht]; simp⟩, by simp only; omega, ?_⟩
      exact sub0 [1] rfl rfl (by decide) (.cons rfl rfl rfl rfl (les_refl (flat_noH _ _)) .nil) (by repeat' first | exact les_nil | refine les_cons ?_ ?_ | exact le_any | exact le_refl rfl | exact le_ptr rfl | exact le_sl rfl rfl | exact le_sl rfl (by simp) | exact le_i (by omega) (by omega))
    · have hge : i = y.length := by
        have : ¬ ((i : Int) < y.length) := by simpa using h
        omega
      subst hge
      rw [List.take_length] at ht
      subst ht
      have e1 := c_ieqB x (y.map swp) (by omega) (by simp; omega)
      rw [eqB_iff.2 hp] at e1
      repeat' first | refine aw_seq ?_ | refine aw_region ?_ | refine aw_lex [] ?_ | (refine isA ?_; refine do_F rfl ?_) | (refine isL ?_; refine lex_F rfl (by kernel_rfl) rfl rfl ?_) | (refine isLg rfl ?_; refine lex_S rfl (by kernel_rfl) rfl rfl ?_) | (refine isAc 65 ?_; refine do_R rfl (st_call rfl e1 (.cons (.same rfl) (.cons (pur_row rfl) .nil)) rfl) rfl ?_) | (refine isLc 65 rfl ?_; refine lex_R rfl (by kernel_rfl) rfl (st_call rfl e1 (.cons (.same rfl) (.cons (pur_row rfl) .nil)) rfl) rfl ?_) | exact fin1 rfl rfl rfl | refine aops_nil ?_ | refine lex_done _ rfl (by kernel_rfl) ?_ | refine aw_ct rfl ?_ | refine aw_cf rfl ?_ | refine aw_block ?_ | with_reducible refine then_n ?_ | refine aw_skip ?_ | refine aw_exit ?_ | (with_reducible first | refine then_x ?_ | refine then_r ?_ | refine block_x ?_ | refine block_n ?_ | refine block_r ?_) | refine aw_ret ?_
end Go.Proofs.Ytkcicbigpbdjpaa.Ab.Pr

/- DrwO -/
namespace Go.Proofs.Ytkcicbigpbdjpaa.Ab
open Go.RowKit
theorem o_u8 : Opens Go.Proofs.Try.prog 22 (fun l : List Int => [lstOf u8T l]) (okL (okI .u8)) := opens_slice Go.Proofs.Try.underlying22 (by kernel_rfl) (opens_int Go.Proofs.Try.underlying5)
end Go.Proofs.Ytkcicbigpbdjpaa.Ab
