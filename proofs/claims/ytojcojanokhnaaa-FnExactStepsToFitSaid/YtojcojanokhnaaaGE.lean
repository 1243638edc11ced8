/- Texts StJ1, StH, StG, StI in one. -/
import Derived.Test.YtojcojanokhnaaaGD
import Derived.Test.YtojcojanokhnaaaAbW
set_option linter.unusedVariables false
set_option linter.unusedSimpArgs false
set_option maxRecDepth 20000
set_option maxHeartbeats 8000000
/- StJ1 -/
namespace Go.Proofs.Ytojcojanokhnaaa.Ab
open Go.RowKit

/-- What the search of the cut knows: the cut lies between i and j. -/
structure CutI (A B : List Rw) (w : Nat) (p : Nat × Nat) : Prop where
  lo : w - B.length ≤ p.1
  le : p.1 ≤ p.2
  hi : p.2 ≤ min A.length w
  hlo : ∀ x y, w - B.length < p.1 → A[p.1 - 1]? = some x → B[w - p.1]? = some y → leW x y
  hhi : ∀ y x, p.2 < min A.length w → B[w - 1 - p.2]? = some y → A[p.2]? = some x → leW y x
theorem cut0 {A B : List Rw} {w : Nat} (hw : w = (A.length + B.length) / 2) : CutI A B w (w - B.length, min A.length w) :=
  ⟨Nat.le_refl _, by simp only; omega, Nat.le_refl _, fun _ _ h => absurd h (Nat.lt_irrefl _), fun _ _ h => absurd h (Nat.lt_irrefl _)⟩
theorem cut_fin {A B : List Rw} {w u : Nat} (hw : w = (A.length + B.length) / 2) (hA : Srt A) (hB : Srt B) (h : CutI A B w (u, u)) :
    u ≤ A.length ∧ u ≤ w ∧ w - u ≤ B.length ∧ srtV (A.take u ++ B.take (w - u)) ++ srtV (A.drop u ++ B.drop (w - u)) = srtV (A ++ B) := by
  obtain ⟨h1, h2, h3, h4, h5⟩ := h
  simp only at h1 h2 h3 h4 h5
  refine ⟨by omega, by omega, by omega, sym_cut hA hB (by omega) (by omega) (fun x y h0 hx hy => ?_) (fun y x h0 hy hx => ?_)⟩
  · refine h4 x y ?_ hx hy
    have := (List.getElem?_eq_some_iff.1 hy).1
    omega
  · refine h5 y x ?_ ?_ hx
    · have := (List.getElem?_eq_some_iff.1 hx).1
      omega
    · rw [show w - 1 - u = w - u - 1 by omega]; exact hy
end Go.Proofs.Ytojcojanokhnaaa.Ab

/- StH -/
namespace Go.Proofs.Ytojcojanokhnaaa.Ab
open Go.RowKit
theorem shr_half {v : Int} (h0 : 0 ≤ v) : bShr .u64 v 1 = v / 2 := by
  unfold bShr
  show v.fdiv 2 = v / 2
  exact Int.fdiv_eq_ediv_of_nonneg v (by omega)
theorem half_val {i j : Nat} (h : i + j ≤ 1000000000000) : IntKind.i64.wrap (bShr .u64 (IntKind.u64.wrap (IntKind.i64.wrap ((i : Int) + (j : Int)))) 1) = (((i + j) / 2 : Nat) : Int) := by
  have e1 : IntKind.i64.wrap ((i : Int) + (j : Int)) = ((i + j : Nat) : Int) := by rw [IntKind.wrap_i64]; omega
  have e2 : IntKind.u64.wrap (((i + j : Nat) : Int)) = ((i + j : Nat) : Int) := by
    unfold IntKind.wrap
    simp [IntKind.bits, IntKind.signed]
    omega
  rw [e1, e2, shr_half (by omega), IntKind.wrap_i64]
  omega
end Go.Proofs.Ytojcojanokhnaaa.Ab

/- StG -/
namespace Go.Proofs.Ytojcojanokhnaaa.Ab
open Go.RowKit

/-- x before a list in order: where it goes. -/
theorem srt_front {x : Rw} {B : List Rw} {u : Nat} (hB : Srt B) (hu : u ≤ B.length) (h1 : ∀ z, 0 < u → B[u - 1]? = some z → leW z x) (h2 : ∀ z, B[u]? = some z → leW x z) : B.take u ++ x :: B.drop u = srtV ([x] ++ B) := by
  have h := sym_cut (A := [x]) (B := B) (u := 0) (v := u) (List.pairwise_singleton _ _) hB (Nat.zero_le _) hu (fun _ _ h => absurd h (Nat.lt_irrefl 0)) (fun y z h0 hy hz => by
    simp at hz
    subst hz
    exact h1 y h0 hy)
  refine srtV_of ?_ ?_
  · have hs : Srt (B.take u ++ B.drop u) := by rw [List.take_append_drop]; exact hB
    obtain ⟨q1, q2, q3⟩ := List.pairwise_append.1 hs
    have hlo := cut_le (A := B) (B := [x]) (u := u) (v := 0) hB (List.pairwise_singleton _ _) hu (fun z y h0 hz hy => by simp at hy; subst hy; exact h1 z h0 hz)
    have hhi := cut_le (A := [x]) (B := B) (u := 1) (v := u) (List.pairwise_singleton _ _) hB (by simp) (fun z y _ hz hy => by simp at hz; subst hz; exact h2 y hy)
    refine List.pairwise_append.2 ⟨q1, List.pairwise_cons.2 ⟨fun y hy => hhi x (by simp) y hy, q2⟩, fun a ha c hc => ?_⟩
    rcases List.mem_cons.1 hc with rfl | hc
    · exact hlo a ha _ (by simp)
    · exact q3 a ha c hc
  · exact List.perm_middle.trans (by rw [List.take_append_drop]; exact .refl _)
/-- x behind a list in order: where it goes. -/
theorem srt_back {x : Rw} {A : List Rw} {u : Nat} (hA : Srt A) (hu : u ≤ A.length) (h1 : ∀ z, 0 < u → A[u - 1]? = some z → leW z x) (h2 : ∀ z, A[u]? = some z → leW x z) : A.take u ++ x :: A.drop u = srtV (A ++ [x]) := by
  rw [srt_front hA hu h1 h2]
  exact srtV_of (srtV_srt _) ((srtV_perm _).trans List.perm_append_comm)
theorem finMvr {l : List V} {H : List Reg} {K : List Reg} (k : Nat) (ψ : List Nat) (hfix : ∀ i, i < k → ψ[i]? = some i) (hnd : ψ.Nodup) (hH : HLes ψ H ψ K) : (Exit.ret = .ret ∨ Exit.ret = .normal) ∧ Out true (.tup []) K (resV ⟨l, H, k⟩ []) ⟨l, H, k⟩ :=
  ⟨Or.inl rfl, out_of (S := ⟨l, H, k⟩) ψ hfix (hle_of hnd hH) (le_tup les_nil) (Or.inl rfl)⟩
theorem swap_up {U W : List Rw} {x y : Rw} {u : Nat} (hu : U.length = u) : ((U ++ x :: y :: W).set u y).set (u + 1) x = U ++ y :: x :: W := by
  subst hu
  have h1 : (U ++ x :: y :: W).set U.length y = U ++ y :: y :: W := by rw [List.set_append_right _ _ (Nat.le_refl _), Nat.sub_self]; rfl
  rw [h1, List.set_append_right _ _ (by omega), show U.length + 1 - U.length = 1 by omega]
  rfl
/-- x, carried t places up. -/
def upL (P B Q : List Rw) (x : Rw) (t : Nat) : List Rw := P ++ B.take t ++ x :: (B.drop t ++ Q)
theorem half_lt {i j : Nat} (h : i < j) : i ≤ (i + j) / 2 ∧ (i + j) / 2 < j := by omega

theorem c_sym1 (P B Q : List Rw) (x : Rw) (hB : Srt B) (h0 : 0 < B.length) (hl : (P ++ [x] ++ B ++ Q).length ≤ 100000000) : Meets Go.Proofs.Try.prog 131 [.sl 0 0 (P ++ [x] ++ B ++ Q).length, I P.length, I (P ++ [x]).length, I (P ++ [x] ++ B).length, .fn 64 []] [rwR (P ++ [x] ++ B ++ Q)] (.tup []) [rwR (P ++ srtV ([x] ++ B) ++ Q)] true := by
  have l1 : (P ++ [x]).length = P.length + 1 := by simp
  have l2 : (P ++ [x] ++ B).length = P.length + 1 + B.length := by simp; omega
  have l3 : (P ++ [x] ++ B ++ Q).length = P.length + 1 + B.length + Q.length := by simp; omega
  generalize hm : (P ++ [x]).length = m at l1 ⊢
  generalize hb : (P ++ [x] ++ B).length = b at l2 ⊢
  generalize hL : (P ++ [x] ++ B ++ Q).length = L at hl l3 ⊢
  refine meets_of [] Go.Proofs.Try.func131 rfl rfl ?_
  simp only [Go.Proofs.Try.ntmps131, List.length_cons, List.length_nil, Nat.reduceAdd, Nat.reduceSub, List.replicate_succ, List.replicate_zero, List.cons_append, List.nil_append]
  repeat' first | refine aw_seq ?_ | refine aw_region ?_ | refine aw_lex [] ?_ | (refine isA ?_; refine do_F rfl ?_) | (refine isL ?_; refine lex_F rfl (by kernel_rfl) rfl rfl ?_) | (refine isLg rfl ?_; refine lex_S rfl (by kernel_rfl) rfl rfl ?_) | refine aops_nil ?_ | refine lex_done _ rfl (by kernel_rfl) ?_ | refine aw_ct rfl ?_ | refine aw_cf rfl ?_ | refine aw_block ?_ | with_reducible refine then_n ?_ | refine aw_skip ?_ | refine aw_exit ?_ | (with_reducible first | refine then_x ?_ | refine then_r ?_ | refine block_x ?_ | refine block_n ?_ | refine block_r ?_) | refine aw_ret ?_
  refine aw_cond rfl (fun _ => ?_) (fun h => absurd (of_decide_eq_false h) (by rw [IntKind.wrap_i64]; omega))
  repeat' first | refine aw_seq ?_ | refine aw_region ?_ | refine aw_lex [] ?_ | (refine isA ?_; refine do_F rfl ?_) | (refine isL ?_; refine lex_F rfl (by kernel_rfl) rfl rfl ?_) | (refine isLg rfl ?_; refine lex_S rfl (by kernel_rfl) rfl rfl ?_) | refine aops_nil ?_ | refine lex_done _ rfl (by kernel_rfl) ?_ | refine aw_ct rfl ?_ | refine aw_cf rfl ?_ | refine aw_block ?_ | with_reducible refine then_n ?_ | refine aw_skip ?_ | refine aw_exit ?_ | (with_reducible first | refine then_x ?_ | refine then_r ?_ | refine block_x ?_ | refine block_n ?_ | refine block_r ?_) | refine aw_ret ?_
  refine aw_loop (α := { p : Nat × Nat // p.1 ≤ p.2 ∧ p.2 ≤ B.length ∧ (∀ z, 0 < p.1 → B[p.1 - 1]? = some z → leW z x) ∧ (∀ z, B[p.2]? = some z → leW x z) }) (fun p => ⟨((.sl 0 0 L) :: (I P.length) :: (I m) :: (I b) :: (.fn 64 []) :: .any :: .any :: .any :: .any :: .any :: (I ((m + p.1.1 : Nat) : Int)) :: (I ((m + p.1.2 : Nat) : Int)) :: .any :: .any :: .any :: .any :: .any :: .any :: .any :: .any :: .any :: .any :: .any :: .any :: .any :: .any :: .any :: .any :: .any :: .any :: .any :: .any :: .any :: .any :: .any :: .any :: .any :: .any :: .any :: .any :: .any :: .any :: .any :: .any :: .any :: .any :: .any :: .any :: .any :: .any :: .any :: .any :: .any :: .any :: .any :: .any :: .any :: .any :: .any :: .any :: .any :: .any :: .any :: .any :: .any :: .any :: .any :: .any :: .any :: .any :: .any :: .any :: .any :: .any :: .any :: .any :: .any :: .any :: .any :: .any :: .any :: .any :: .any :: .any :: .any :: .any :: .any :: .any :: .any :: .any :: .any :: .any :: .any :: .any :: .any :: .any :: .any :: .any :: .any :: .any :: .any :: .any :: .any :: .any :: .any :: .any :: .any :: .any :: .any :: .any :: .any :: .any :: .any :: .any :: .any :: .any :: .any :: .any :: .any :: .any :: .any :: .any :: .any :: .any :: .any :: .any :: .any :: .any :: .any :: .any :: .any :: .any :: .any :: .any :: .any :: .any :: .any :: .any :: .any :: .any :: .any :: .any :: .any :: .any :: .any :: .any :: .any :: .any :: .any :: .any :: .any :: .any :: .any :: .any :: .any :: .any :: .any :: .any :: .any :: .any :: .any :: .any :: .any :: .any :: .any :: .any :: .any :: .any :: .any :: .any :: .any :: .any :: .any :: .any :: .any :: .any :: .any :: .any :: .any :: .any :: .any :: .any :: .any :: .any :: .any :: .any :: .any :: .any :: .any :: .any :: .any :: .any :: .any :: .any :: .any :: .any :: .any :: .any :: .any :: .any :: .any :: .any :: .any :: .any :: .any :: .any :: .any :: .any :: .any :: .any :: .any :: .any :: .any :: .any :: .any :: .any :: .any :: .any :: .any :: .any :: []), [rwR (P ++ [x] ++ B ++ Q)], 1⟩) (fun p => p.1.2 - p.1.1) ⟨(0, B.length), Nat.zero_le _, Nat.le_refl _, fun _ h => absurd h (Nat.lt_irrefl 0), fun z hz => absurd (List.getElem?_eq_some_iff.1 hz).1 (Nat.lt_irrefl _)⟩ ?_ ?_
  · exact subm 1 [0] rfl rfl fix1 (by decide) (.cons rfl rfl rfl rfl (les_refl (flat_noH _ _)) .nil) (by
      repeat' first | exact les_nil | refine les_cons ?_ ?_ | exact le_any | exact le_refl rfl | exact le_sl rfl rfl | exact le_k (congrArg _ (show ((m + B.length : Nat) : Int) = (b : Int) by omega)))
  · rintro ⟨⟨i, j⟩, hij, hj, hlo, hhi⟩
    simp only at hij hj hlo hhi
    repeat' first | refine aw_seq ?_ | refine aw_region ?_ | refine aw_lex [] ?_ | (refine isA ?_; refine do_F rfl ?_) | (refine isL ?_; refine lex_F rfl (by kernel_rfl) rfl rfl ?_) | (refine isLg rfl ?_; refine lex_S rfl (by kernel_rfl) rfl rfl ?_) | refine aops_nil ?_ | refine lex_done _ rfl (by kernel_rfl) ?_ | refine aw_ct rfl ?_ | refine aw_cf rfl ?_ | refine aw_block ?_ | with_reducible refine then_n ?_ | refine aw_skip ?_ | refine aw_exit ?_ | (with_reducible first | refine then_x ?_ | refine then_r ?_ | refine block_x ?_ | refine block_n ?_ | refine block_r ?_) | refine aw_ret ?_
    refine aw_cond rfl (fun h => ?_) (fun h => ?_)
    · have hlt : i < j := by have := of_decide_eq_true h; simp only at this; omega
      obtain ⟨k, hk⟩ : ∃ k, k = (i + j) / 2 := ⟨_, rfl⟩
      have k1 : i ≤ k ∧ k < j := by omega
      have hv : IntKind.i64.wrap (bShr .u64 (IntKind.u64.wrap (IntKind.i64.wrap (((m + i : Nat) : Int) + ((m + j : Nat) : Int)))) 1) = ((m + k : Nat) : Int) := by
        rw [half_val (by omega)]; omega
      obtain ⟨y, hy⟩ : ∃ z, B[k]? = some z := ⟨_, List.getElem?_eq_getElem (by omega)⟩
      have gy : (P ++ [x] ++ B ++ Q)[0 + (m + k)]? = some y := by
        rw [List.getElem?_append_left (by omega), List.getElem?_append_right (by omega), hm, show 0 + (m + k) - m = k by omega]; exact hy
      have gx : (P ++ [x] ++ B ++ Q)[0 + P.length]? = some x := by
        rw [Nat.zero_add, List.append_assoc, List.append_assoc, List.getElem?_append_right (Nat.le_refl _), Nat.sub_self]; rfl
      repeat' first | refine aw_seq ?_ | refine aw_region ?_ | refine aw_lex [] ?_ | (refine isA ?_; refine do_F rfl ?_) | (refine isL ?_; refine lex_F rfl (by kernel_rfl) rfl rfl ?_) | (refine isLg rfl ?_; refine lex_S rfl (by kernel_rfl) rfl rfl ?_) | refine do_R rfl (step_shr (n := 1) rfl rfl rfl) rfl ?_ | refine lex_R rfl (by kernel_rfl) rfl (step_shr (n := 1) rfl rfl rfl) rfl ?_ | (refine isAi (x := .tmp 41) ?_; refine do_R rfl (step_ia_sl (j := ((m + k : Nat) : Int)) rfl rfl rfl (Nat.zero_le _) rfl (congrArg I hv) (Int.natCast_nonneg _) (by omega)) rfl ?_) | (refine isLi (x := .tmp 41) rfl ?_; refine lex_R rfl (by kernel_rfl) rfl (step_ia_sl (j := ((m + k : Nat) : Int)) rfl rfl rfl (Nat.zero_le _) rfl (congrArg I hv) (Int.natCast_nonneg _) (by omega)) rfl ?_) | (refine isAi (x := .tmp 45) ?_; refine do_R rfl (step_ia_sl (j := (P.length : Int)) rfl rfl rfl (Nat.zero_le _) rfl rfl (Int.natCast_nonneg _) (by omega)) rfl ?_) | (refine isLi (x := .tmp 45) rfl ?_; refine lex_R rfl (by kernel_rfl) rfl (step_ia_sl (j := (P.length : Int)) rfl rfl rfl (Nat.zero_le _) rfl rfl (Int.natCast_nonneg _) (by omega)) rfl ?_) | (refine isAl (x := .tmp 43) ?_; refine do_R rfl (ld_a (T := rwT) (i := 0 + (m + k)) (z := y) rfl rfl rfl gy) rfl ?_) | (refine isLl (x := .tmp 43) rfl ?_; refine lex_R rfl (by kernel_rfl) rfl (ld_a (T := rwT) (i := 0 + (m + k)) (z := y) rfl rfl rfl gy) rfl ?_) | (refine isAl (x := .tmp 47) ?_; refine do_R rfl (ld_a (T := rwT) (i := 0 + P.length) (z := x) rfl rfl rfl gx) rfl ?_) | (refine isLl (x := .tmp 47) rfl ?_; refine lex_R rfl (by kernel_rfl) rfl (ld_a (T := rwT) (i := 0 + P.length) (z := x) rfl rfl rfl gx) rfl ?_) | refine do_R rfl (st_callV rfl rfl (c_icmp y x) (.cons (.same rfl) (.cons (.same rfl) .nil)) rfl) rfl ?_ | refine lex_R rfl (by kernel_rfl) rfl (st_callV rfl rfl (c_icmp y x) (.cons (.same rfl) (.cons (.same rfl) .nil)) rfl) rfl ?_ | refine aops_nil ?_ | refine lex_done _ rfl (by kernel_rfl) ?_ | refine aw_ct rfl ?_ | refine aw_cf rfl ?_ | refine aw_block ?_ | with_reducible refine then_n ?_ | refine aw_skip ?_ | refine aw_exit ?_ | (with_reducible first | refine then_x ?_ | refine then_r ?_ | refine block_x ?_ | refine block_n ?_ | refine block_r ?_) | refine aw_ret ?_
      refine aw_cond rfl (fun p => ?_) (fun p => ?_)
      · have q := leW_not (cmp_neg.1 (of_decide_eq_true p))
        repeat' first | refine aw_seq ?_ | refine aw_region ?_ | refine aw_lex [] ?_ | (refine isA ?_; refine do_F rfl ?_) | (refine isL ?_; refine lex_F rfl (by kernel_rfl) rfl rfl ?_) | (refine isLg rfl ?_; refine lex_S rfl (by kernel_rfl) rfl rfl ?_) | refine aops_nil ?_ | refine lex_done _ rfl (by kernel_rfl) ?_ | refine aw_ct rfl ?_ | refine aw_cf rfl ?_ | refine aw_block ?_ | with_reducible refine then_n ?_ | refine aw_skip ?_ | refine aw_exit ?_ | (with_reducible first | refine then_x ?_ | refine then_r ?_ | refine block_x ?_ | refine block_n ?_ | refine block_r ?_) | refine aw_ret ?_
        refine ⟨⟨(k + 1, j), by simp only; omega, hj, fun z _ hz => by simp only [Nat.add_sub_cancel] at hz; rw [hy] at hz; cases hz; exact q, hhi⟩, by simp only; omega, ?_⟩
        exact subm 1 [0] rfl rfl fix1 (by decide) (.cons rfl rfl rfl rfl (les_refl (flat_noH _ _)) .nil) (by
          repeat' first | exact les_nil | refine les_cons ?_ ?_ | exact le_any | exact le_refl rfl | exact le_sl rfl rfl | exact le_k (congrArg _ (show ((m + (k + 1) : Nat) : Int) = IntKind.i64.wrap (IntKind.i64.wrap (bShr .u64 (IntKind.u64.wrap (IntKind.i64.wrap (((m + i : Nat) : Int) + ((m + j : Nat) : Int)))) 1) + 1) by rw [hv, IntKind.wrap_i64]; omega)))
      · have q : leW x y := Classical.byContradiction fun hn => absurd (cmp_neg.2 hn) (of_decide_eq_false p)
        repeat' first | refine aw_seq ?_ | refine aw_region ?_ | refine aw_lex [] ?_ | (refine isA ?_; refine do_F rfl ?_) | (refine isL ?_; refine lex_F rfl (by kernel_rfl) rfl rfl ?_) | (refine isLg rfl ?_; refine lex_S rfl (by kernel_rfl) rfl rfl ?_) | refine aops_nil ?_ | refine lex_done _ rfl (by kernel_rfl) ?_ | refine aw_ct rfl ?_ | refine aw_cf rfl ?_ | refine aw_block ?_ | with_reducible refine then_n ?_ | refine aw_skip ?_ | refine aw_exit ?_ | (with_reducible first | refine then_x ?_ | refine then_r ?_ | refine block_x ?_ | refine block_n ?_ | refine block_r ?_) | refine aw_ret ?_
        refine ⟨⟨(i, k), k1.1, by simp only; omega, hlo, fun z hz => by rw [hy] at hz; cases hz; exact q⟩, by simp only; omega, ?_⟩
        exact subm 1 [0] rfl rfl fix1 (by decide) (.cons rfl rfl rfl rfl (les_refl (flat_noH _ _)) .nil) (by
          repeat' first | exact les_nil | refine les_cons ?_ ?_ | exact le_any | exact le_refl rfl | exact le_sl rfl rfl | exact le_k (congrArg _ hv.symm))
    · have e : i = j := by have := of_decide_eq_false h; simp only at this; omega
      subst e
      have hfin := srt_front hB hj hlo hhi
      have e1 : IntKind.i64.wrap (((m + i : Nat) : Int) - 1) = ((P.length + i : Nat) : Int) := by rw [IntKind.wrap_i64]; omega
      repeat' first | refine aw_seq ?_ | refine aw_region ?_ | refine aw_lex [] ?_ | (refine isA ?_; refine do_F rfl ?_) | (refine isL ?_; refine lex_F rfl (by kernel_rfl) rfl rfl ?_) | (refine isLg rfl ?_; refine lex_S rfl (by kernel_rfl) rfl rfl ?_) | refine aops_nil ?_ | refine lex_done _ rfl (by kernel_rfl) ?_ | refine aw_ct rfl ?_ | refine aw_cf rfl ?_ | refine aw_block ?_ | with_reducible refine then_n ?_ | refine aw_skip ?_ | refine aw_exit ?_ | (with_reducible first | refine then_x ?_ | refine then_r ?_ | refine block_x ?_ | refine block_n ?_ | refine block_r ?_) | refine aw_ret ?_
      refine aw_loop (α := { t : Nat // t ≤ i }) (fun t => ⟨((.sl 0 0 L) :: .any :: .any :: .any :: .any :: .any :: .any :: .any :: .any :: .any :: (I ((m + i : Nat) : Int)) :: .any :: .any :: (I ((P.length + t.1 : Nat) : Int)) :: .any :: .any :: .any :: .any :: .any :: .any :: .any :: .any :: .any :: .any :: .any :: .any :: .any :: .any :: .any :: .any :: .any :: .any :: .any :: .any :: .any :: .any :: .any :: .any :: .any :: .any :: .any :: .any :: .any :: .any :: .any :: .any :: .any :: .any :: .any :: .any :: .any :: .any :: .any :: .any :: .any :: .any :: .any :: .any :: .any :: .any :: .any :: .any :: .any :: .any :: .any :: .any :: .any :: .any :: .any :: .any :: .any :: .any :: .any :: .any :: .any :: .any :: .any :: .any :: .any :: .any :: .any :: .any :: .any :: .any :: .any :: .any :: .any :: .any :: .any :: .any :: .any :: .any :: .any :: .any :: .any :: .any :: .any :: .any :: .any :: .any :: .any :: .any :: .any :: .any :: .any :: .any :: .any :: .any :: .any :: .any :: .any :: .any :: .any :: .any :: .any :: .any :: .any :: .any :: .any :: .any :: .any :: .any :: .any :: .any :: .any :: .any :: .any :: .any :: .any :: .any :: .any :: .any :: .any :: .any :: .any :: .any :: .any :: .any :: .any :: .any :: .any :: .any :: .any :: .any :: .any :: .any :: .any :: .any :: .any :: .any :: .any :: .any :: .any :: .any :: .any :: .any :: .any :: .any :: .any :: .any :: .any :: .any :: .any :: .any :: .any :: .any :: .any :: .any :: .any :: .any :: .any :: .any :: .any :: .any :: .any :: .any :: .any :: .any :: .any :: .any :: .any :: .any :: .any :: .any :: .any :: .any :: .any :: .any :: .any :: .any :: .any :: .any :: .any :: .any :: .any :: .any :: .any :: .any :: .any :: .any :: .any :: .any :: .any :: .any :: .any :: .any :: .any :: .any :: .any :: .any :: .any :: .any :: .any :: .any :: .any :: .any :: .any :: .any :: .any :: .any :: []), [rwR (upL P B Q x t.1)], 1⟩) (fun t => i - t.1) ⟨0, Nat.zero_le _⟩ ?_ ?_
      · exact subm 1 [0] rfl rfl fix1 (by decide) (.cons rfl rfl rfl rfl (les_eq (congrArg rwT.flat (by simp [upL])) (flat_noH _ _)) .nil) (by repeat' first | exact les_nil | refine les_cons ?_ ?_ | exact le_any | exact le_refl rfl | exact le_sl rfl rfl | exact le_ptr rfl)
      · rintro ⟨t, ht⟩
        repeat' first | refine aw_seq ?_ | refine aw_region ?_ | refine aw_lex [] ?_ | (refine isA ?_; refine do_F rfl ?_) | (refine isL ?_; refine lex_F rfl (by kernel_rfl) rfl rfl ?_) | (refine isLg rfl ?_; refine lex_S rfl (by kernel_rfl) rfl rfl ?_) | refine aops_nil ?_ | refine lex_done _ rfl (by kernel_rfl) ?_ | refine aw_ct rfl ?_ | refine aw_cf rfl ?_ | refine aw_block ?_ | with_reducible refine then_n ?_ | refine aw_skip ?_ | refine aw_exit ?_ | (with_reducible first | refine then_x ?_ | refine then_r ?_ | refine block_x ?_ | refine block_n ?_ | refine block_r ?_) | refine aw_ret ?_
        refine aw_cond rfl (fun q => ?_) (fun q => ?_)
        · have hlt : t < i := by have := of_decide_eq_true q; simp only [e1] at this; omega
          obtain ⟨y, hy⟩ : ∃ z, B[t]? = some z := ⟨_, List.getElem?_eq_getElem (by omega)⟩
          have hL1 : upL P B Q x t = (P ++ B.take t) ++ x :: y :: (B.drop (t + 1) ++ Q) := by rw [upL, take_drop1 hy]; rfl
          have hL2 : upL P B Q x (t + 1) = (P ++ B.take t) ++ y :: x :: (B.drop (t + 1) ++ Q) := by rw [upL, take_snoc hy]; simp
          have hu : (P ++ B.take t).length = P.length + t := by simp; omega
          have e2 : IntKind.i64.wrap (((P.length + t : Nat) : Int) + 1) = ((P.length + t + 1 : Nat) : Int) := by rw [IntKind.wrap_i64]; omega
          have g0 : (upL P B Q x t)[0 + (P.length + t)]? = some x := by rw [hL1, List.getElem?_append_right (by omega), hu, show 0 + (P.length + t) - (P.length + t) = 0 by omega]; rfl
          have g1 : (upL P B Q x t)[0 + (P.length + t + 1)]? = some y := by rw [hL1, List.getElem?_append_right (by omega), hu, show 0 + (P.length + t + 1) - (P.length + t) = 1 by omega]; rfl
          repeat' first | refine aw_seq ?_ | refine aw_region ?_ | (refine isA ?_; refine do_F rfl ?_) | (refine isL ?_; refine lex_F rfl (by kernel_rfl) rfl rfl ?_) | (refine isLg rfl ?_; refine lex_S rfl (by kernel_rfl) rfl rfl ?_) | refine aops_nil ?_ | refine lex_done _ rfl (by kernel_rfl) ?_ | refine aw_ct rfl ?_ | refine aw_cf rfl ?_ | refine aw_block ?_ | with_reducible refine then_n ?_ | refine aw_skip ?_ | refine aw_exit ?_ | (with_reducible first | refine then_x ?_ | refine then_r ?_ | refine block_x ?_ | refine block_n ?_ | refine block_r ?_) | refine aw_ret ?_
          refine aw_per [15, 17] 18 rfl ?_
          refine per_P 0 rfl (by kernel_rfl) rfl (fun _ => rfl) rfl ?_
          refine per_P 1 rfl (by kernel_rfl) rfl (fun _ => rfl) rfl ?_
          refine per_P 2 rfl (by kernel_rfl) rfl (fun _ => rfl) rfl ?_
          refine per_P 3 rfl (by kernel_rfl) rfl (fun _ => rfl) rfl ?_
          refine per_P 4 rfl (by kernel_rfl) rfl (fun _ => rfl) rfl ?_
          refine per_P 5 rfl (by kernel_rfl) rfl (fun _ => rfl) rfl ?_
          refine per_P 6 rfl (by kernel_rfl) rfl (fun _ => rfl) rfl ?_
          refine per_P 7 rfl (by kernel_rfl) rfl (fun _ => rfl) rfl ?_
          refine per_R 8 rfl (by kernel_rfl) rfl (step_ia_sl (j := ((P.length + t + 1 : Nat) : Int)) rfl rfl rfl (Nat.zero_le _) rfl (congrArg I e2) (Int.natCast_nonneg _) (by omega)) rfl ?_
          refine per_R 9 rfl (by kernel_rfl) rfl (ld_a (T := rwT) (i := 0 + (P.length + t + 1)) (z := y) rfl rfl rfl g1) rfl ?_
          refine per_P 10 rfl (by kernel_rfl) rfl (fun _ => rfl) rfl ?_
          refine per_P 11 rfl (by kernel_rfl) rfl (fun _ => rfl) rfl ?_
          refine per_R 12 rfl (by kernel_rfl) rfl (step_ia_sl (j := ((P.length + t : Nat) : Int)) rfl rfl rfl (Nat.zero_le _) rfl rfl (Int.natCast_nonneg _) (by omega)) rfl ?_
          refine per_R 13 rfl (by kernel_rfl) rfl (ld_a (T := rwT) (i := 0 + (P.length + t)) (z := x) rfl rfl rfl g0) rfl ?_
          refine per_R 14 rfl (by kernel_rfl) rfl (step_ia_sl (j := ((P.length + t : Nat) : Int)) rfl rfl rfl (Nat.zero_le _) rfl rfl (Int.natCast_nonneg _) (by omega)) rfl ?_
          refine per_W 15 rfl (by kernel_rfl) rfl rfl (set_l (T := rwT) (i := 0 + (P.length + t)) (z := y) rfl rfl rfl rfl rfl (List.getElem?_eq_some_iff.1 g0).1) rfl ?_
          refine per_R 16 rfl (by kernel_rfl) rfl (step_ia_sl (j := ((P.length + t + 1 : Nat) : Int)) rfl rfl rfl (Nat.zero_le _) rfl (congrArg I e2) (Int.natCast_nonneg _) (by omega)) rfl ?_
          refine per_W 17 rfl (by kernel_rfl) rfl rfl (set_l (T := rwT) (i := 0 + (P.length + t + 1)) (z := x) rfl rfl rfl rfl rfl (by rw [List.length_set]; exact (List.getElem?_eq_some_iff.1 g1).1)) rfl ?_
          refine per_done (by kernel_rfl) ?_
          repeat' first | refine aw_seq ?_ | refine aw_region ?_ | refine aw_lex [] ?_ | (refine isA ?_; refine do_F rfl ?_) | (refine isL ?_; refine lex_F rfl (by kernel_rfl) rfl rfl ?_) | (refine isLg rfl ?_; refine lex_S rfl (by kernel_rfl) rfl rfl ?_) | refine aops_nil ?_ | refine lex_done _ rfl (by kernel_rfl) ?_ | refine aw_ct rfl ?_ | refine aw_cf rfl ?_ | refine aw_block ?_ | with_reducible refine then_n ?_ | refine aw_skip ?_ | refine aw_exit ?_ | (with_reducible first | refine then_x ?_ | refine then_r ?_ | refine block_x ?_ | refine block_n ?_ | refine block_r ?_) | refine aw_ret ?_
          refine ⟨⟨t + 1, hlt⟩, by simp only; omega, ?_⟩
          exact subm 1 [0] rfl rfl fix1 (by decide) (.cons rfl rfl rfl rfl (les_eq (show rwT.flat (((upL P B Q x t).set (0 + (P.length + t)) y).set (0 + (P.length + t + 1)) x) = rwT.flat (upL P B Q x (t + 1)) by rw [hL1, Nat.zero_add, Nat.zero_add, swap_up hu, hL2]) (flat_noH _ _)) .nil) (by
            repeat' first | exact les_nil | refine les_cons ?_ ?_ | exact le_any | exact le_refl rfl | exact le_sl rfl rfl | exact le_k (congrArg _ (show ((P.length + (t + 1) : Nat) : Int) = IntKind.i64.wrap (((P.length + t : Nat) : Int) + 1) by rw [e2]; omega)))
        · have hge : t = i := by have := of_decide_eq_false q; simp only [e1] at this; omega
          subst hge
          have e3 : upL P B Q x t = P ++ srtV ([x] ++ B) ++ Q := by rw [← hfin, upL]; simp
          repeat' first | refine aw_seq ?_ | refine aw_region ?_ | refine aw_lex [] ?_ | (refine isA ?_; refine do_F rfl ?_) | (refine isL ?_; refine lex_F rfl (by kernel_rfl) rfl rfl ?_) | (refine isLg rfl ?_; refine lex_S rfl (by kernel_rfl) rfl rfl ?_) | exact finMvr 1 [0] fix1 (by decide) (.cons rfl rfl rfl rfl (les_eq (congrArg rwT.flat e3) (flat_noH _ _)) .nil) | refine aops_nil ?_ | refine lex_done _ rfl (by kernel_rfl) ?_ | refine aw_ct rfl ?_ | refine aw_cf rfl ?_ | refine aw_block ?_ | with_reducible refine then_n ?_ | refine aw_skip ?_ | refine aw_exit ?_ | (with_reducible first | refine then_x ?_ | refine then_r ?_ | refine block_x ?_ | refine block_n ?_ | refine block_r ?_) | refine aw_ret ?_
end Go.Proofs.Ytojcojanokhnaaa.Ab

/- StI -/
namespace Go.Proofs.Ytojcojanokhnaaa.Ab
open Go.RowKit

theorem c_sym2 (P A Q : List Rw) (x : Rw) (hA : Srt A) (h0 : 2 ≤ A.length) (hl : (P ++ A ++ [x] ++ Q).length ≤ 100000000) : Meets Go.Proofs.Try.prog 131 [.sl 0 0 (P ++ A ++ [x] ++ Q).length, I P.length, I (P ++ A).length, I (P ++ A ++ [x]).length, .fn 64 []] [rwR (P ++ A ++ [x] ++ Q)] (.tup []) [rwR (P ++ srtV (A ++ [x]) ++ Q)] true := by
  have l1 : (P ++ A).length = P.length + A.length := by simp
  have l2 : (P ++ A ++ [x]).length = P.length + A.length + 1 := by simp; omega
  have l3 : (P ++ A ++ [x] ++ Q).length = P.length + A.length + 1 + Q.length := by simp; omega
  generalize hm : (P ++ A).length = m at l1 ⊢
  generalize hb : (P ++ A ++ [x]).length = b at l2 ⊢
  generalize hL : (P ++ A ++ [x] ++ Q).length = L at hl l3 ⊢
  refine meets_of [] Go.Proofs.Try.func131 rfl rfl ?_
  simp only [Go.Proofs.Try.ntmps131, List.length_cons, List.length_nil, Nat.reduceAdd, Nat.reduceSub, List.replicate_succ, List.replicate_zero, List.cons_append, List.nil_append]
  repeat' first | refine aw_seq ?_ | refine aw_region ?_ | refine aw_lex [] ?_ | (refine isA ?_; refine do_F rfl ?_) | (refine isL ?_; refine lex_F rfl (by kernel_rfl) rfl rfl ?_) | (refine isLg rfl ?_; refine lex_S rfl (by kernel_rfl) rfl rfl ?_) | refine aops_nil ?_ | refine lex_done _ rfl (by kernel_rfl) ?_ | refine aw_ct rfl ?_ | refine aw_cf rfl ?_ | refine aw_block ?_ | with_reducible refine then_n ?_ | refine aw_skip ?_ | refine aw_exit ?_ | (with_reducible first | refine then_x ?_ | refine then_r ?_ | refine block_x ?_ | refine block_n ?_ | refine block_r ?_) | refine aw_ret ?_
  refine aw_cond rfl (fun h => absurd (of_decide_eq_true h) (by rw [IntKind.wrap_i64]; omega)) (fun _ => ?_)
  repeat' first | refine aw_seq ?_ | refine aw_region ?_ | refine aw_lex [] ?_ | (refine isA ?_; refine do_F rfl ?_) | (refine isL ?_; refine lex_F rfl (by kernel_rfl) rfl rfl ?_) | (refine isLg rfl ?_; refine lex_S rfl (by kernel_rfl) rfl rfl ?_) | refine aops_nil ?_ | refine lex_done _ rfl (by kernel_rfl) ?_ | refine aw_ct rfl ?_ | refine aw_cf rfl ?_ | refine aw_block ?_ | with_reducible refine then_n ?_ | refine aw_skip ?_ | refine aw_exit ?_ | (with_reducible first | refine then_x ?_ | refine then_r ?_ | refine block_x ?_ | refine block_n ?_ | refine block_r ?_) | refine aw_ret ?_
  refine aw_cond rfl (fun _ => ?_) (fun h => absurd (of_decide_eq_false h) (by rw [IntKind.wrap_i64]; omega))
  repeat' first | refine aw_seq ?_ | refine aw_region ?_ | refine aw_lex [] ?_ | (refine isA ?_; refine do_F rfl ?_) | (refine isL ?_; refine lex_F rfl (by kernel_rfl) rfl rfl ?_) | (refine isLg rfl ?_; refine lex_S rfl (by kernel_rfl) rfl rfl ?_) | refine aops_nil ?_ | refine lex_done _ rfl (by kernel_rfl) ?_ | refine aw_ct rfl ?_ | refine aw_cf rfl ?_ | refine aw_block ?_ | with_reducible refine then_n ?_ | refine aw_skip ?_ | refine aw_exit ?_ | (with_reducible first | refine then_x ?_ | refine then_r ?_ | refine block_x ?_ | refine block_n ?_ | refine block_r ?_) | refine aw_ret ?_
  refine aw_loop (α := { p : Nat × Nat // p.1 ≤ p.2 ∧ p.2 ≤ A.length ∧ (∀ z, 0 < p.1 → A[p.1 - 1]? = some z → leW z x) ∧ (∀ z, A[p.2]? = some z → leW x z) }) (fun p => ⟨((.sl 0 0 L) :: (I P.length) :: (I m) :: (I b) :: (.fn 64 []) :: .any :: .any :: .any :: .any :: .any :: .any :: .any :: .any :: .any :: (I ((P.length + p.1.1 : Nat) : Int)) :: (I ((P.length + p.1.2 : Nat) : Int)) :: .any :: .any :: .any :: .any :: .any :: .any :: .any :: .any :: .any :: .any :: .any :: .any :: .any :: .any :: .any :: .any :: .any :: .any :: .any :: .any :: .any :: .any :: .any :: .any :: .any :: .any :: .any :: .any :: .any :: .any :: .any :: .any :: .any :: .any :: .any :: .any :: .any :: .any :: .any :: .any :: .any :: .any :: .any :: .any :: .any :: .any :: .any :: .any :: .any :: .any :: .any :: .any :: .any :: .any :: .any :: .any :: .any :: .any :: .any :: .any :: .any :: .any :: .any :: .any :: .any :: .any :: .any :: .any :: .any :: .any :: .any :: .any :: .any :: .any :: .any :: .any :: .any :: .any :: .any :: .any :: .any :: .any :: .any :: .any :: .any :: .any :: .any :: .any :: .any :: .any :: .any :: .any :: .any :: .any :: .any :: .any :: .any :: .any :: .any :: .any :: .any :: .any :: .any :: .any :: .any :: .any :: .any :: .any :: .any :: .any :: .any :: .any :: .any :: .any :: .any :: .any :: .any :: .any :: .any :: .any :: .any :: .any :: .any :: .any :: .any :: .any :: .any :: .any :: .any :: .any :: .any :: .any :: .any :: .any :: .any :: .any :: .any :: .any :: .any :: .any :: .any :: .any :: .any :: .any :: .any :: .any :: .any :: .any :: .any :: .any :: .any :: .any :: .any :: .any :: .any :: .any :: .any :: .any :: .any :: .any :: .any :: .any :: .any :: .any :: .any :: .any :: .any :: .any :: .any :: .any :: .any :: .any :: .any :: .any :: .any :: .any :: .any :: .any :: .any :: .any :: .any :: .any :: .any :: .any :: .any :: .any :: .any :: .any :: .any :: .any :: .any :: .any :: .any :: .any :: .any :: .any :: .any :: .any :: .any :: .any :: .any :: .any :: .any :: .any :: []), [rwR (P ++ A ++ [x] ++ Q)], 1⟩) (fun p => p.1.2 - p.1.1) ⟨(0, A.length), Nat.zero_le _, Nat.le_refl _, fun _ h => absurd h (Nat.lt_irrefl 0), fun z hz => absurd (List.getElem?_eq_some_iff.1 hz).1 (Nat.lt_irrefl _)⟩ ?_ ?_
  · exact subm 1 [0] rfl rfl fix1 (by decide) (.cons rfl rfl rfl rfl (les_refl (flat_noH _ _)) .nil) (by
          repeat' first | exact les_nil | refine les_cons ?_ ?_ | exact le_any | exact le_refl rfl | exact le_sl rfl rfl | exact le_k (congrArg _ (show ((P.length + A.length : Nat) : Int) = (m : Int) by omega)))
  · rintro ⟨⟨i, j⟩, hij, hj, hlo, hhi⟩
    simp only at hij hj hlo hhi
    repeat' first | refine aw_seq ?_ | refine aw_region ?_ | refine aw_lex [] ?_ | (refine isA ?_; refine do_F rfl ?_) | (refine isL ?_; refine lex_F rfl (by kernel_rfl) rfl rfl ?_) | (refine isLg rfl ?_; refine lex_S rfl (by kernel_rfl) rfl rfl ?_) | refine aops_nil ?_ | refine lex_done _ rfl (by kernel_rfl) ?_ | refine aw_ct rfl ?_ | refine aw_cf rfl ?_ | refine aw_block ?_ | with_reducible refine then_n ?_ | refine aw_skip ?_ | refine aw_exit ?_ | (with_reducible first | refine then_x ?_ | refine then_r ?_ | refine block_x ?_ | refine block_n ?_ | refine block_r ?_) | refine aw_ret ?_
    refine aw_cond rfl (fun h => ?_) (fun h => ?_)
    · have hlt : i < j := by have := of_decide_eq_true h; simp only at this; omega
      obtain ⟨k, hk⟩ : ∃ k, k = (i + j) / 2 := ⟨_, rfl⟩
      have k1 : i ≤ k ∧ k < j := by omega
      have hv : IntKind.i64.wrap (bShr .u64 (IntKind.u64.wrap (IntKind.i64.wrap (((P.length + i : Nat) : Int) + ((P.length + j : Nat) : Int)))) 1) = ((P.length + k : Nat) : Int) := by
        rw [half_val (by omega)]; omega
      obtain ⟨y, hy⟩ : ∃ z, A[k]? = some z := ⟨_, List.getElem?_eq_getElem (by omega)⟩
      have gy : (P ++ A ++ [x] ++ Q)[0 + (P.length + k)]? = some y := by
        rw [List.append_assoc, List.getElem?_append_left (by omega), List.getElem?_append_right (by omega), show 0 + (P.length + k) - P.length = k by omega]; exact hy
      have gx : (P ++ A ++ [x] ++ Q)[0 + m]? = some x := by
        rw [List.append_assoc, List.getElem?_append_right (by omega), hm, show 0 + m - m = 0 by omega]; rfl
      repeat' first | refine aw_seq ?_ | refine aw_region ?_ | refine aw_lex [] ?_ | (refine isA ?_; refine do_F rfl ?_) | (refine isL ?_; refine lex_F rfl (by kernel_rfl) rfl rfl ?_) | (refine isLg rfl ?_; refine lex_S rfl (by kernel_rfl) rfl rfl ?_) | refine do_R rfl (step_shr (n := 1) rfl rfl rfl) rfl ?_ | refine lex_R rfl (by kernel_rfl) rfl (step_shr (n := 1) rfl rfl rfl) rfl ?_ | (refine isAi (x := .tmp 97) ?_; refine do_R rfl (step_ia_sl (j := ((P.length + k : Nat) : Int)) rfl rfl rfl (Nat.zero_le _) rfl (congrArg I hv) (Int.natCast_nonneg _) (by omega)) rfl ?_) | (refine isLi (x := .tmp 97) rfl ?_; refine lex_R rfl (by kernel_rfl) rfl (step_ia_sl (j := ((P.length + k : Nat) : Int)) rfl rfl rfl (Nat.zero_le _) rfl (congrArg I hv) (Int.natCast_nonneg _) (by omega)) rfl ?_) | (refine isAi (x := .tmp 93) ?_; refine do_R rfl (step_ia_sl (j := (m : Int)) rfl rfl rfl (Nat.zero_le _) rfl rfl (Int.natCast_nonneg _) (by omega)) rfl ?_) | (refine isLi (x := .tmp 93) rfl ?_; refine lex_R rfl (by kernel_rfl) rfl (step_ia_sl (j := (m : Int)) rfl rfl rfl (Nat.zero_le _) rfl rfl (Int.natCast_nonneg _) (by omega)) rfl ?_) | (refine isAl (x := .tmp 99) ?_; refine do_R rfl (ld_a (T := rwT) (i := 0 + (P.length + k)) (z := y) rfl rfl rfl gy) rfl ?_) | (refine isLl (x := .tmp 99) rfl ?_; refine lex_R rfl (by kernel_rfl) rfl (ld_a (T := rwT) (i := 0 + (P.length + k)) (z := y) rfl rfl rfl gy) rfl ?_) | (refine isAl (x := .tmp 95) ?_; refine do_R rfl (ld_a (T := rwT) (i := 0 + m) (z := x) rfl rfl rfl gx) rfl ?_) | (refine isLl (x := .tmp 95) rfl ?_; refine lex_R rfl (by kernel_rfl) rfl (ld_a (T := rwT) (i := 0 + m) (z := x) rfl rfl rfl gx) rfl ?_) | refine do_R rfl (st_callV rfl rfl (c_icmp x y) (.cons (.same rfl) (.cons (.same rfl) .nil)) rfl) rfl ?_ | refine lex_R rfl (by kernel_rfl) rfl (st_callV rfl rfl (c_icmp x y) (.cons (.same rfl) (.cons (.same rfl) .nil)) rfl) rfl ?_ | refine aops_nil ?_ | refine lex_done _ rfl (by kernel_rfl) ?_ | refine aw_ct rfl ?_ | refine aw_cf rfl ?_ | refine aw_block ?_ | with_reducible refine then_n ?_ | refine aw_skip ?_ | refine aw_exit ?_ | (with_reducible first | refine then_x ?_ | refine then_r ?_ | refine block_x ?_ | refine block_n ?_ | refine block_r ?_) | refine aw_ret ?_
      refine aw_cond rfl (fun p => ?_) (fun p => ?_)
      · have p' : decide (cmpV x y < 0) = false := by simpa using p
        have q : leW y x := Classical.byContradiction fun hn => absurd (cmp_neg.2 hn) (of_decide_eq_false p')
        repeat' first | refine aw_seq ?_ | refine aw_region ?_ | refine aw_lex [] ?_ | (refine isA ?_; refine do_F rfl ?_) | (refine isL ?_; refine lex_F rfl (by kernel_rfl) rfl rfl ?_) | (refine isLg rfl ?_; refine lex_S rfl (by kernel_rfl) rfl rfl ?_) | refine aops_nil ?_ | refine lex_done _ rfl (by kernel_rfl) ?_ | refine aw_ct rfl ?_ | refine aw_cf rfl ?_ | refine aw_block ?_ | with_reducible refine then_n ?_ | refine aw_skip ?_ | refine aw_exit ?_ | (with_reducible first | refine then_x ?_ | refine then_r ?_ | refine block_x ?_ | refine block_n ?_ | refine block_r ?_) | refine aw_ret ?_
        refine ⟨⟨(k + 1, j), by simp only; omega, hj, fun z _ hz => by simp only [Nat.add_sub_cancel] at hz; rw [hy] at hz; cases hz; exact q, hhi⟩, by simp only; omega, ?_⟩
        exact subm 1 [0] rfl rfl fix1 (by decide) (.cons rfl rfl rfl rfl (les_refl (flat_noH _ _)) .nil) (by
          repeat' first | exact les_nil | refine les_cons ?_ ?_ | exact le_any | exact le_refl rfl | exact le_sl rfl rfl | exact le_k (congrArg _ (show ((P.length + (k + 1) : Nat) : Int) = IntKind.i64.wrap (IntKind.i64.wrap (bShr .u64 (IntKind.u64.wrap (IntKind.i64.wrap (((P.length + i : Nat) : Int) + ((P.length + j : Nat) : Int)))) 1) + 1) by rw [hv, IntKind.wrap_i64]; omega)))
      · have p' : decide (cmpV x y < 0) = true := by simpa using p
        have q := leW_not (cmp_neg.1 (of_decide_eq_true p'))
        repeat' first | refine aw_seq ?_ | refine aw_region ?_ | refine aw_lex [] ?_ | (refine isA ?_; refine do_F rfl ?_) | (refine isL ?_; refine lex_F rfl (by kernel_rfl) rfl rfl ?_) | (refine isLg rfl ?_; refine lex_S rfl (by kernel_rfl) rfl rfl ?_) | refine aops_nil ?_ | refine lex_done _ rfl (by kernel_rfl) ?_ | refine aw_ct rfl ?_ | refine aw_cf rfl ?_ | refine aw_block ?_ | with_reducible refine then_n ?_ | refine aw_skip ?_ | refine aw_exit ?_ | (with_reducible first | refine then_x ?_ | refine then_r ?_ | refine block_x ?_ | refine block_n ?_ | refine block_r ?_) | refine aw_ret ?_
        refine ⟨⟨(i, k), k1.1, by simp only; omega, hlo, fun z hz => by rw [hy] at hz; cases hz; exact q⟩, by simp only; omega, ?_⟩
        exact subm 1 [0] rfl rfl fix1 (by decide) (.cons rfl rfl rfl rfl (les_refl (flat_noH _ _)) .nil) (by
          repeat' first | exact les_nil | refine les_cons ?_ ?_ | exact le_any | exact le_refl rfl | exact le_sl rfl rfl | exact le_k (congrArg _ hv.symm))
    · have e : i = j := by have := of_decide_eq_false h; simp only at this; omega
      subst e
      have hfin := srt_back hA hj hlo hhi
      repeat' first | refine aw_seq ?_ | refine aw_region ?_ | refine aw_lex [] ?_ | (refine isA ?_; refine do_F rfl ?_) | (refine isL ?_; refine lex_F rfl (by kernel_rfl) rfl rfl ?_) | (refine isLg rfl ?_; refine lex_S rfl (by kernel_rfl) rfl rfl ?_) | refine aops_nil ?_ | refine lex_done _ rfl (by kernel_rfl) ?_ | refine aw_ct rfl ?_ | refine aw_cf rfl ?_ | refine aw_block ?_ | with_reducible refine then_n ?_ | refine aw_skip ?_ | refine aw_exit ?_ | (with_reducible first | refine then_x ?_ | refine then_r ?_ | refine block_x ?_ | refine block_n ?_ | refine block_r ?_) | refine aw_ret ?_
      refine aw_loop (α := { t : Nat // i ≤ t ∧ t ≤ A.length }) (fun t => ⟨((.sl 0 0 L) :: .any :: .any :: .any :: .any :: .any :: .any :: .any :: .any :: .any :: .any :: .any :: .any :: .any :: (I ((P.length + i : Nat) : Int)) :: .any :: .any :: (I ((P.length + t.1 : Nat) : Int)) :: .any :: .any :: .any :: .any :: .any :: .any :: .any :: .any :: .any :: .any :: .any :: .any :: .any :: .any :: .any :: .any :: .any :: .any :: .any :: .any :: .any :: .any :: .any :: .any :: .any :: .any :: .any :: .any :: .any :: .any :: .any :: .any :: .any :: .any :: .any :: .any :: .any :: .any :: .any :: .any :: .any :: .any :: .any :: .any :: .any :: .any :: .any :: .any :: .any :: .any :: .any :: .any :: .any :: .any :: .any :: .any :: .any :: .any :: .any :: .any :: .any :: .any :: .any :: .any :: .any :: .any :: .any :: .any :: .any :: .any :: .any :: .any :: .any :: .any :: .any :: .any :: .any :: .any :: .any :: .any :: .any :: .any :: .any :: .any :: .any :: .any :: .any :: .any :: .any :: .any :: .any :: .any :: .any :: .any :: .any :: .any :: .any :: .any :: .any :: .any :: .any :: .any :: .any :: .any :: .any :: .any :: .any :: .any :: .any :: .any :: .any :: .any :: .any :: .any :: .any :: .any :: .any :: .any :: .any :: .any :: .any :: .any :: .any :: .any :: .any :: .any :: .any :: .any :: .any :: .any :: .any :: .any :: .any :: .any :: .any :: .any :: .any :: .any :: .any :: .any :: .any :: .any :: .any :: .any :: .any :: .any :: .any :: .any :: .any :: .any :: .any :: .any :: .any :: .any :: .any :: .any :: .any :: .any :: .any :: .any :: .any :: .any :: .any :: .any :: .any :: .any :: .any :: .any :: .any :: .any :: .any :: .any :: .any :: .any :: .any :: .any :: .any :: .any :: .any :: .any :: .any :: .any :: .any :: .any :: .any :: .any :: .any :: .any :: .any :: .any :: .any :: .any :: .any :: .any :: .any :: .any :: .any :: .any :: .any :: .any :: .any :: .any :: []), [rwR (upL P A Q x t.1)], 1⟩) (fun t => t.1) ⟨A.length, hj, Nat.le_refl _⟩ ?_ ?_
      · exact subm 1 [0] rfl rfl fix1 (by decide) (.cons rfl rfl rfl rfl (les_eq (congrArg rwT.flat (by simp [upL])) (flat_noH _ _)) .nil) (by
          repeat' first | exact les_nil | refine les_cons ?_ ?_ | exact le_any | exact le_refl rfl | exact le_sl rfl rfl | exact le_k (congrArg _ (show ((P.length + A.length : Nat) : Int) = (m : Int) by omega)))
      · rintro ⟨t', ht1, ht2⟩
        repeat' first | refine aw_seq ?_ | refine aw_region ?_ | refine aw_lex [] ?_ | (refine isA ?_; refine do_F rfl ?_) | (refine isL ?_; refine lex_F rfl (by kernel_rfl) rfl rfl ?_) | (refine isLg rfl ?_; refine lex_S rfl (by kernel_rfl) rfl rfl ?_) | refine aops_nil ?_ | refine lex_done _ rfl (by kernel_rfl) ?_ | refine aw_ct rfl ?_ | refine aw_cf rfl ?_ | refine aw_block ?_ | with_reducible refine then_n ?_ | refine aw_skip ?_ | refine aw_exit ?_ | (with_reducible first | refine then_x ?_ | refine then_r ?_ | refine block_x ?_ | refine block_n ?_ | refine block_r ?_) | refine aw_ret ?_
        refine aw_cond rfl (fun q => ?_) (fun q => ?_)
        · have hlt : i < t' := by have := of_decide_eq_true q; simp only at this; omega
          obtain ⟨t, rfl⟩ : ∃ t, t' = t + 1 := ⟨t' - 1, by omega⟩
          obtain ⟨y, hy⟩ : ∃ z, A[t]? = some z := ⟨_, List.getElem?_eq_getElem (by omega)⟩
          have hL1 : upL P A Q x (t + 1) = (P ++ A.take t) ++ y :: x :: (A.drop (t + 1) ++ Q) := by rw [upL, take_snoc hy]; simp
          have hL2 : upL P A Q x t = (P ++ A.take t) ++ x :: y :: (A.drop (t + 1) ++ Q) := by rw [upL, take_drop1 hy]; rfl
          have hu : (P ++ A.take t).length = P.length + t := by simp; omega
          have ew : IntKind.i64.wrap (((P.length + (t + 1) : Nat) : Int) - 1) = ((P.length + t : Nat) : Int) := by rw [IntKind.wrap_i64]; omega
          have g0 : (upL P A Q x (t + 1))[0 + (P.length + t)]? = some y := by rw [hL1, List.getElem?_append_right (by omega), hu, show 0 + (P.length + t) - (P.length + t) = 0 by omega]; rfl
          have g1 : (upL P A Q x (t + 1))[0 + (P.length + t + 1)]? = some x := by rw [hL1, List.getElem?_append_right (by omega), hu, show 0 + (P.length + t + 1) - (P.length + t) = 1 by omega]; rfl
          repeat' first | refine aw_seq ?_ | refine aw_region ?_ | (refine isA ?_; refine do_F rfl ?_) | (refine isL ?_; refine lex_F rfl (by kernel_rfl) rfl rfl ?_) | (refine isLg rfl ?_; refine lex_S rfl (by kernel_rfl) rfl rfl ?_) | refine aops_nil ?_ | refine lex_done _ rfl (by kernel_rfl) ?_ | refine aw_ct rfl ?_ | refine aw_cf rfl ?_ | refine aw_block ?_ | with_reducible refine then_n ?_ | refine aw_skip ?_ | refine aw_exit ?_ | (with_reducible first | refine then_x ?_ | refine then_r ?_ | refine block_x ?_ | refine block_n ?_ | refine block_r ?_) | refine aw_ret ?_
          refine aw_per [15, 17] 18 rfl ?_
          refine per_P 0 rfl (by kernel_rfl) rfl (fun _ => rfl) rfl ?_
          refine per_P 1 rfl (by kernel_rfl) rfl (fun _ => rfl) rfl ?_
          refine per_P 2 rfl (by kernel_rfl) rfl (fun _ => rfl) rfl ?_
          refine per_P 3 rfl (by kernel_rfl) rfl (fun _ => rfl) rfl ?_
          refine per_P 4 rfl (by kernel_rfl) rfl (fun _ => rfl) rfl ?_
          refine per_P 5 rfl (by kernel_rfl) rfl (fun _ => rfl) rfl ?_
          refine per_P 6 rfl (by kernel_rfl) rfl (fun _ => rfl) rfl ?_
          refine per_P 7 rfl (by kernel_rfl) rfl (fun _ => rfl) rfl ?_
          refine per_R 8 rfl (by kernel_rfl) rfl (step_ia_sl (j := ((P.length + t : Nat) : Int)) rfl rfl rfl (Nat.zero_le _) rfl (congrArg I ew) (Int.natCast_nonneg _) (by omega)) rfl ?_
          refine per_R 9 rfl (by kernel_rfl) rfl (ld_a (T := rwT) (i := 0 + (P.length + t)) (z := y) rfl rfl rfl g0) rfl ?_
          refine per_P 10 rfl (by kernel_rfl) rfl (fun _ => rfl) rfl ?_
          refine per_P 11 rfl (by kernel_rfl) rfl (fun _ => rfl) rfl ?_
          refine per_R 12 rfl (by kernel_rfl) rfl (step_ia_sl (j := ((P.length + t + 1 : Nat) : Int)) rfl rfl rfl (Nat.zero_le _) rfl rfl (Int.natCast_nonneg _) (by omega)) rfl ?_
          refine per_R 13 rfl (by kernel_rfl) rfl (ld_a (T := rwT) (i := 0 + (P.length + t + 1)) (z := x) rfl rfl rfl g1) rfl ?_
          refine per_R 14 rfl (by kernel_rfl) rfl (step_ia_sl (j := ((P.length + t + 1 : Nat) : Int)) rfl rfl rfl (Nat.zero_le _) rfl rfl (Int.natCast_nonneg _) (by omega)) rfl ?_
          refine per_W 15 rfl (by kernel_rfl) rfl rfl (set_l (T := rwT) (i := 0 + (P.length + t + 1)) (z := y) rfl rfl rfl rfl rfl (List.getElem?_eq_some_iff.1 g1).1) rfl ?_
          refine per_R 16 rfl (by kernel_rfl) rfl (step_ia_sl (j := ((P.length + t : Nat) : Int)) rfl rfl rfl (Nat.zero_le _) rfl (congrArg I ew) (Int.natCast_nonneg _) (by omega)) rfl ?_
          refine per_W 17 rfl (by kernel_rfl) rfl rfl (set_l (T := rwT) (i := 0 + (P.length + t)) (z := x) rfl rfl rfl rfl rfl (by rw [List.length_set]; exact (List.getElem?_eq_some_iff.1 g0).1)) rfl ?_
          refine per_done (by kernel_rfl) ?_
          repeat' first | refine aw_seq ?_ | refine aw_region ?_ | refine aw_lex [] ?_ | (refine isA ?_; refine do_F rfl ?_) | (refine isL ?_; refine lex_F rfl (by kernel_rfl) rfl rfl ?_) | (refine isLg rfl ?_; refine lex_S rfl (by kernel_rfl) rfl rfl ?_) | refine aops_nil ?_ | refine lex_done _ rfl (by kernel_rfl) ?_ | refine aw_ct rfl ?_ | refine aw_cf rfl ?_ | refine aw_block ?_ | with_reducible refine then_n ?_ | refine aw_skip ?_ | refine aw_exit ?_ | (with_reducible first | refine then_x ?_ | refine then_r ?_ | refine block_x ?_ | refine block_n ?_ | refine block_r ?_) | refine aw_ret ?_
          refine ⟨⟨t, by omega, by omega⟩, by simp only; omega, ?_⟩
          exact subm 1 [0] rfl rfl fix1 (by decide) (.cons rfl rfl rfl rfl (les_eq (show rwT.flat (((upL P A Q x (t + 1)).set (0 + (P.length + t + 1)) y).set (0 + (P.length + t)) x) = rwT.flat (upL P A Q x t) by rw [hL1, Nat.zero_add, Nat.zero_add, swap_at hu, hL2]) (flat_noH _ _)) .nil) (by
          repeat' first | exact les_nil | refine les_cons ?_ ?_ | exact le_any | exact le_refl rfl | exact le_sl rfl rfl | exact le_k (congrArg _ ew.symm))
        · have hge : t' = i := by have := of_decide_eq_false q; simp only at this; omega
          subst hge
          have e3 : upL P A Q x t' = P ++ srtV (A ++ [x]) ++ Q := by rw [← hfin, upL]; simp
          repeat' first | refine aw_seq ?_ | refine aw_region ?_ | refine aw_lex [] ?_ | (refine isA ?_; refine do_F rfl ?_) | (refine isL ?_; refine lex_F rfl (by kernel_rfl) rfl rfl ?_) | (refine isLg rfl ?_; refine lex_S rfl (by kernel_rfl) rfl rfl ?_) | exact finMvr 1 [0] fix1 (by decide) (.cons rfl rfl rfl rfl (les_eq (congrArg rwT.flat e3) (flat_noH _ _)) .nil) | refine aops_nil ?_ | refine lex_done _ rfl (by kernel_rfl) ?_ | refine aw_ct rfl ?_ | refine aw_cf rfl ?_ | refine aw_block ?_ | with_reducible refine then_n ?_ | refine aw_skip ?_ | refine aw_exit ?_ | (with_reducible first | refine then_x ?_ | refine then_r ?_ | refine block_x ?_ | refine block_n ?_ | refine block_r ?_) | refine aw_ret ?_
end Go.Proofs.Ytojcojanokhnaaa.Ab
