/- Texts StJ, StK in one. -/
import Derived.Test.YtojcojanokhnaaaGE
import Derived.Test.YtojcojanokhnaaaGD
set_option linter.unusedVariables false
set_option linter.unusedSimpArgs false
set_option maxRecDepth 20000
set_option maxHeartbeats 8000000
/- StJ -/
namespace Go.Proofs.Ytojcojanokhnaaa.Ab
open Go.RowKit

/-- The paths of one 'if' are joined behind it. -/
theorem aw_joinAt {P : Program} (id : Nat) {ops : Array Oper} {b : Bool} {c y : Code} {Q : Exit → St → Prop} {S : St} (T : St) (h : AW P (.seq (.region id ops b) c) (fun e S' => e = .normal ∧ Sub T S') S) (k : AW P y Q T) : AW P (.seq (.seq (.region id ops b) c) y) Q S :=
  aw_seq ⟨fun C φ a w hI => wp_mono (h.out C φ a w hI) fun e a' w' hq => by
    obtain ⟨S', φ1, hI', he, hs⟩ := hq
    subst he
    obtain ⟨φ2, h2⟩ := hs C φ1 a' w' hI'
    exact ⟨T, φ2, h2, k⟩⟩

theorem c_rotX {ds rs : List Rw} {L : Nat} {a m b : Int} (P X Y Q : List Rw) (hd : ds = P ++ X ++ Y ++ Q) (hL : L = ds.length) (hl : L ≤ 100000000) (ha : a = (P.length : Int)) (hm : m = ((P ++ X).length : Int)) (hb : b = ((P ++ X ++ Y).length : Int)) (hx : 0 < X.length) (hy : 0 < Y.length) (hr : rs = P ++ Y ++ X ++ Q) :
    Meets Go.Proofs.Try.prog 132 [.sl 0 0 L, I a, I m, I b, .fn 64 []] [rwR ds] (.tup []) [rwR rs] true := by
  subst hd hL ha hm hb hr
  exact c_rotate P X Y Q hx hy hl
def SymC (P A B Q : List Rw) : Prop := Meets Go.Proofs.Try.prog 131 [.sl 0 0 (P ++ A ++ B ++ Q).length, I P.length, I (P ++ A).length, I (P ++ A ++ B).length, .fn 64 []] [rwR (P ++ A ++ B ++ Q)] (.tup []) [rwR (P ++ srtV (A ++ B) ++ Q)] true
theorem SymC.x {ds rs : List Rw} {L : Nat} {a m b : Int} {P A B Q : List Rw} (h : SymC P A B Q) (hd : ds = P ++ A ++ B ++ Q) (hL : L = ds.length) (ha : a = (P.length : Int)) (hm : m = ((P ++ A).length : Int)) (hb : b = ((P ++ A ++ B).length : Int)) (hr : rs = P ++ srtV (A ++ B) ++ Q) :
    Meets Go.Proofs.Try.prog 131 [.sl 0 0 L, I a, I m, I b, .fn 64 []] [rwR ds] (.tup []) [rwR rs] true := by
  subst hd hL ha hm hb hr
  exact h
theorem srt_cases {A B : List Rw} (hA : Srt A) (hB : Srt B) (h : A.length = 0 ∨ B.length = 0) : A ++ B = srtV (A ++ B) := by
  rcases h with h | h
  · rw [List.eq_nil_of_length_eq_zero h, List.nil_append, srtV_id hB]
  · rw [List.eq_nil_of_length_eq_zero h, List.append_nil, srtV_id hA]

theorem c_symM (P A B Q : List Rw) (hA : Srt A) (hB : Srt B) (h0 : 2 ≤ A.length) (h1 : 2 ≤ B.length) (hl : (P ++ A ++ B ++ Q).length ≤ 100000000)
    (IH : ∀ P' A' B' Q', A'.length + B'.length < A.length + B.length → Srt A' → Srt B' → 0 < A'.length → 0 < B'.length → (P' ++ A' ++ B' ++ Q').length ≤ 100000000 → SymC P' A' B' Q') : SymC P A B Q := by
  unfold SymC
  have l1 : (P ++ A).length = P.length + A.length := by simp
  have l2 : (P ++ A ++ B).length = P.length + A.length + B.length := by simp; omega
  have l3 : (P ++ A ++ B ++ Q).length = P.length + A.length + B.length + Q.length := by simp; omega
  obtain ⟨w, hw⟩ : ∃ w, w = (A.length + B.length) / 2 := ⟨_, rfl⟩
  have hds : ∀ k x, A[k]? = some x → (P ++ A ++ B ++ Q)[0 + (P.length + k)]? = some x := fun k x hx => by
    have := (List.getElem?_eq_some_iff.1 hx).1
    rw [List.getElem?_append_left (by omega), List.getElem?_append_left (by omega), List.getElem?_append_right (by omega), show 0 + (P.length + k) - P.length = k by omega]; exact hx
  have hdb : ∀ k x, B[k]? = some x → (P ++ A ++ B ++ Q)[0 + (P.length + A.length + k)]? = some x := fun k x hx => by
    have := (List.getElem?_eq_some_iff.1 hx).1
    rw [List.getElem?_append_left (by omega), List.getElem?_append_right (by omega), l1, show 0 + (P.length + A.length + k) - (P.length + A.length) = k by omega]; exact hx
  have eds : P ++ A ++ B ++ Q = P ++ A ++ B ++ Q := rfl
  generalize hm : (P ++ A).length = m at l1 ⊢
  generalize hb : (P ++ A ++ B).length = b at l2 ⊢
  generalize hL : (P ++ A ++ B ++ Q).length = L at hl l3 ⊢
  generalize hD : P ++ A ++ B ++ Q = D at hds hdb hL ⊢
  generalize ha : P.length = a at hds hdb l1 l2 l3 ⊢
  have hv : IntKind.i64.wrap (bShr .u64 (IntKind.u64.wrap (IntKind.i64.wrap ((a : Int) + (b : Int)))) 1) = ((a + w : Nat) : Int) := by rw [half_val (by omega)]; omega
  refine meets_of [] Go.Proofs.Try.func131 rfl rfl ?_
  simp only [Go.Proofs.Try.ntmps131, List.length_cons, List.length_nil, Nat.reduceAdd, Nat.reduceSub, List.replicate_succ, List.replicate_zero, List.cons_append, List.nil_append]
  repeat' first | refine aw_seq ?_ | refine aw_region ?_ | refine aw_lex [] ?_ | (refine isA ?_; refine do_F rfl ?_) | (refine isL ?_; refine lex_F rfl (by kernel_rfl) rfl rfl ?_) | (refine isLg rfl ?_; refine lex_S rfl (by kernel_rfl) rfl rfl ?_) | refine aops_nil ?_ | refine lex_done _ rfl (by kernel_rfl) ?_ | refine aw_ct rfl ?_ | refine aw_cf rfl ?_ | refine aw_block ?_ | with_reducible refine then_n ?_ | refine aw_skip ?_ | refine aw_exit ?_ | (with_reducible first | refine then_x ?_ | refine then_r ?_ | refine block_x ?_ | refine block_n ?_ | refine block_r ?_) | refine aw_ret ?_
  refine aw_cond rfl (fun h => absurd (of_decide_eq_true h) (by rw [IntKind.wrap_i64]; omega)) (fun _ => ?_)
  repeat' first | refine aw_seq ?_ | refine aw_region ?_ | refine aw_lex [] ?_ | (refine isA ?_; refine do_F rfl ?_) | (refine isL ?_; refine lex_F rfl (by kernel_rfl) rfl rfl ?_) | (refine isLg rfl ?_; refine lex_S rfl (by kernel_rfl) rfl rfl ?_) | refine aops_nil ?_ | refine lex_done _ rfl (by kernel_rfl) ?_ | refine aw_ct rfl ?_ | refine aw_cf rfl ?_ | refine aw_block ?_ | with_reducible refine then_n ?_ | refine aw_skip ?_ | refine aw_exit ?_ | (with_reducible first | refine then_x ?_ | refine then_r ?_ | refine block_x ?_ | refine block_n ?_ | refine block_r ?_) | refine aw_ret ?_
  refine aw_cond rfl (fun h => absurd (of_decide_eq_true h) (by rw [IntKind.wrap_i64]; omega)) (fun _ => ?_)
  repeat' first | (refine aw_joinAt 27 ⟨((.sl 0 0 L) :: (I a) :: (I m) :: (I b) :: (.fn 64 []) :: .any :: .any :: .any :: .any :: .any :: .any :: .any :: .any :: .any :: .any :: .any :: .any :: .any :: (I ((a + w : Nat) : Int)) :: (I ((a + w + m : Nat) : Int)) :: (I ((a + (w - B.length) : Nat) : Int)) :: (I ((a + min A.length w : Nat) : Int)) :: .any :: .any :: .any :: .any :: .any :: .any :: .any :: .any :: .any :: .any :: .any :: .any :: .any :: .any :: .any :: .any :: .any :: .any :: .any :: .any :: .any :: .any :: .any :: .any :: .any :: .any :: .any :: .any :: .any :: .any :: .any :: .any :: .any :: .any :: .any :: .any :: .any :: .any :: .any :: .any :: .any :: .any :: .any :: .any :: .any :: .any :: .any :: .any :: .any :: .any :: .any :: .any :: .any :: .any :: .any :: .any :: .any :: .any :: .any :: .any :: .any :: .any :: .any :: .any :: .any :: .any :: .any :: .any :: .any :: .any :: .any :: .any :: .any :: .any :: .any :: .any :: .any :: .any :: .any :: .any :: .any :: .any :: .any :: .any :: .any :: .any :: .any :: .any :: .any :: .any :: .any :: .any :: .any :: .any :: .any :: .any :: .any :: .any :: .any :: .any :: .any :: .any :: .any :: .any :: .any :: .any :: .any :: .any :: .any :: .any :: .any :: .any :: .any :: .any :: .any :: .any :: .any :: .any :: .any :: .any :: .any :: .any :: .any :: .any :: .any :: .any :: .any :: .any :: .any :: .any :: .any :: .any :: .any :: .any :: .any :: .any :: .any :: .any :: .any :: .any :: .any :: .any :: .any :: .any :: .any :: .any :: .any :: .any :: .any :: .any :: .any :: .any :: .any :: .any :: .any :: .any :: .any :: .any :: .any :: .any :: .any :: .any :: .any :: .any :: .any :: .any :: .any :: .any :: .any :: .any :: .any :: .any :: .any :: .any :: .any :: .any :: .any :: .any :: .any :: .any :: .any :: .any :: .any :: .any :: .any :: .any :: .any :: .any :: .any :: .any :: .any :: .any :: .any :: .any :: .any :: .any :: .any :: .any :: []), [rwR D], 1⟩ ?_ ?_) | refine aw_seq ?_ | refine aw_region ?_ | refine aw_lex [] ?_ | (refine isA ?_; refine do_F rfl ?_) | (refine isL ?_; refine lex_F rfl (by kernel_rfl) rfl rfl ?_) | (refine isLg rfl ?_; refine lex_S rfl (by kernel_rfl) rfl rfl ?_) | refine do_R rfl (step_shr (n := 1) rfl rfl rfl) rfl ?_ | refine lex_R rfl (by kernel_rfl) rfl (step_shr (n := 1) rfl rfl rfl) rfl ?_ | refine aops_nil ?_ | refine lex_done _ rfl (by kernel_rfl) ?_ | refine aw_ct rfl ?_ | refine aw_cf rfl ?_ | refine aw_block ?_ | with_reducible refine then_n ?_ | refine aw_skip ?_ | refine aw_exit ?_ | (with_reducible first | refine then_x ?_ | refine then_r ?_ | refine block_x ?_ | refine block_n ?_ | refine block_r ?_) | refine aw_ret ?_
  · have lk : ∀ x y z : Int, (x = ((a + w : Nat) : Int)) → y = ((a + w + m : Nat) : Int) → True := fun _ _ _ _ _ => trivial
    refine aw_cond rfl (fun h => ?_) (fun h => ?_)
    · have q : a + w < m := by have := of_decide_eq_true h; simp only [hv] at this; omega
      repeat' first | refine aw_seq ?_ | refine aw_region ?_ | refine aw_lex [] ?_ | (refine isA ?_; refine do_F rfl ?_) | (refine isL ?_; refine lex_F rfl (by kernel_rfl) rfl rfl ?_) | (refine isLg rfl ?_; refine lex_S rfl (by kernel_rfl) rfl rfl ?_) | refine aops_nil ?_ | refine lex_done _ rfl (by kernel_rfl) ?_ | refine aw_ct rfl ?_ | refine aw_cf rfl ?_ | refine aw_block ?_ | with_reducible refine then_n ?_ | refine aw_skip ?_ | refine aw_exit ?_ | (with_reducible first | refine then_x ?_ | refine then_r ?_ | refine block_x ?_ | refine block_n ?_ | refine block_r ?_) | refine aw_ret ?_
      refine ⟨rfl, subm 1 [0] rfl rfl fix1 (by decide) (.cons rfl rfl rfl rfl (les_refl (flat_noH _ _)) .nil) (by
        repeat' first | exact les_nil | refine les_cons ?_ ?_ | exact le_any | exact le_refl rfl | exact le_sl rfl rfl | exact le_k (congrArg _ hv.symm) | exact le_k (congrArg _ (show ((a + w + m : Nat) : Int) = IntKind.i64.wrap (IntKind.i64.wrap (bShr .u64 (IntKind.u64.wrap (IntKind.i64.wrap ((a : Int) + (b : Int)))) 1) + m) by rw [hv, IntKind.wrap_i64]; omega)) | exact le_k (congrArg _ (show ((a + (w - B.length) : Nat) : Int) = IntKind.i64.wrap (IntKind.i64.wrap (IntKind.i64.wrap (bShr .u64 (IntKind.u64.wrap (IntKind.i64.wrap ((a : Int) + (b : Int)))) 1) + m) - b) by rw [hv, show IntKind.i64.wrap (((a + w : Nat) : Int) + m) = ((a + w + m : Nat) : Int) by rw [IntKind.wrap_i64]; omega, IntKind.wrap_i64]; omega)) | exact le_k (congrArg _ (show ((a + min A.length w : Nat) : Int) = IntKind.i64.wrap (bShr .u64 (IntKind.u64.wrap (IntKind.i64.wrap ((a : Int) + (b : Int)))) 1) by rw [hv, Nat.min_eq_right (by omega)])))⟩
    · have q : m ≤ a + w := by have := of_decide_eq_false h; simp only [hv] at this; omega
      repeat' first | refine aw_seq ?_ | refine aw_region ?_ | refine aw_lex [] ?_ | (refine isA ?_; refine do_F rfl ?_) | (refine isL ?_; refine lex_F rfl (by kernel_rfl) rfl rfl ?_) | (refine isLg rfl ?_; refine lex_S rfl (by kernel_rfl) rfl rfl ?_) | refine aops_nil ?_ | refine lex_done _ rfl (by kernel_rfl) ?_ | refine aw_ct rfl ?_ | refine aw_cf rfl ?_ | refine aw_block ?_ | with_reducible refine then_n ?_ | refine aw_skip ?_ | refine aw_exit ?_ | (with_reducible first | refine then_x ?_ | refine then_r ?_ | refine block_x ?_ | refine block_n ?_ | refine block_r ?_) | refine aw_ret ?_
      refine ⟨rfl, subm 1 [0] rfl rfl fix1 (by decide) (.cons rfl rfl rfl rfl (les_refl (flat_noH _ _)) .nil) (by
        repeat' first | exact les_nil | refine les_cons ?_ ?_ | exact le_any | exact le_refl rfl | exact le_sl rfl rfl | exact le_k (congrArg _ hv.symm) | exact le_k (congrArg _ (show ((a + w + m : Nat) : Int) = IntKind.i64.wrap (IntKind.i64.wrap (bShr .u64 (IntKind.u64.wrap (IntKind.i64.wrap ((a : Int) + (b : Int)))) 1) + m) by rw [hv, IntKind.wrap_i64]; omega)) | exact le_k (congrArg _ (show ((a + (w - B.length) : Nat) : Int) = (a : Int) by omega)) | exact le_k (congrArg _ (show ((a + min A.length w : Nat) : Int) = (m : Int) by rw [Nat.min_eq_left (by omega)]; omega)))⟩
  · have ep : IntKind.i64.wrap (((a + w + m : Nat) : Int) - 1) = ((a + w + m - 1 : Nat) : Int) := by rw [IntKind.wrap_i64]; omega
    refine aw_loop (α := { p : Nat × Nat // CutI A B w p }) (fun p => ⟨((.sl 0 0 L) :: (I a) :: (I m) :: (I b) :: (.fn 64 []) :: .any :: .any :: .any :: .any :: .any :: .any :: .any :: .any :: .any :: .any :: .any :: .any :: .any :: (I ((a + w : Nat) : Int)) :: (I ((a + w + m : Nat) : Int)) :: (I ((a + p.1.1 : Nat) : Int)) :: (I ((a + p.1.2 : Nat) : Int)) :: (I ((a + w + m - 1 : Nat) : Int)) :: .any :: .any :: .any :: .any :: .any :: .any :: .any :: .any :: .any :: .any :: .any :: .any :: .any :: .any :: .any :: .any :: .any :: .any :: .any :: .any :: .any :: .any :: .any :: .any :: .any :: .any :: .any :: .any :: .any :: .any :: .any :: .any :: .any :: .any :: .any :: .any :: .any :: .any :: .any :: .any :: .any :: .any :: .any :: .any :: .any :: .any :: .any :: .any :: .any :: .any :: .any :: .any :: .any :: .any :: .any :: .any :: .any :: .any :: .any :: .any :: .any :: .any :: .any :: .any :: .any :: .any :: .any :: .any :: .any :: .any :: .any :: .any :: .any :: .any :: .any :: .any :: .any :: .any :: .any :: .any :: .any :: .any :: .any :: .any :: .any :: .any :: .any :: .any :: .any :: .any :: .any :: .any :: .any :: .any :: .any :: .any :: .any :: .any :: .any :: .any :: .any :: .any :: .any :: .any :: .any :: .any :: .any :: .any :: .any :: .any :: .any :: .any :: .any :: .any :: .any :: .any :: .any :: .any :: .any :: .any :: .any :: .any :: .any :: .any :: .any :: .any :: .any :: .any :: .any :: .any :: .any :: .any :: .any :: .any :: .any :: .any :: .any :: .any :: .any :: .any :: .any :: .any :: .any :: .any :: .any :: .any :: .any :: .any :: .any :: .any :: .any :: .any :: .any :: .any :: .any :: .any :: .any :: .any :: .any :: .any :: .any :: .any :: .any :: .any :: .any :: .any :: .any :: .any :: .any :: .any :: .any :: .any :: .any :: .any :: .any :: .any :: .any :: .any :: .any :: .any :: .any :: .any :: .any :: .any :: .any :: .any :: .any :: .any :: .any :: .any :: .any :: .any :: .any :: .any :: .any :: .any :: .any :: []), [rwR D], 1⟩) (fun p => p.1.2 - p.1.1) ⟨(w - B.length, min A.length w), cut0 hw⟩ ?_ ?_
    · exact subm 1 [0] rfl rfl fix1 (by decide) (.cons rfl rfl rfl rfl (les_refl (flat_noH _ _)) .nil) (by
        repeat' first | exact les_nil | refine les_cons ?_ ?_ | exact le_any | exact le_refl rfl | exact le_sl rfl rfl | exact le_k (congrArg _ ep.symm))
    · rintro ⟨⟨i, j⟩, J⟩
      have j1 : w - B.length ≤ i := J.lo
      have j2 : i ≤ j := J.le
      have j3 : j ≤ min A.length w := J.hi
      repeat' first | refine aw_seq ?_ | refine aw_region ?_ | refine aw_lex [] ?_ | (refine isA ?_; refine do_F rfl ?_) | (refine isL ?_; refine lex_F rfl (by kernel_rfl) rfl rfl ?_) | (refine isLg rfl ?_; refine lex_S rfl (by kernel_rfl) rfl rfl ?_) | refine aops_nil ?_ | refine lex_done _ rfl (by kernel_rfl) ?_ | refine aw_ct rfl ?_ | refine aw_cf rfl ?_ | refine aw_block ?_ | with_reducible refine then_n ?_ | refine aw_skip ?_ | refine aw_exit ?_ | (with_reducible first | refine then_x ?_ | refine then_r ?_ | refine block_x ?_ | refine block_n ?_ | refine block_r ?_) | refine aw_ret ?_
      refine aw_cond rfl (fun h => ?_) (fun h => ?_)
      · have hlt : i < j := by have := of_decide_eq_true h; simp only at this; omega
        obtain ⟨k, hk⟩ : ∃ k, k = (i + j) / 2 := ⟨_, rfl⟩
        have k1 : i ≤ k ∧ k < j := by omega
        have hc : IntKind.i64.wrap (bShr .u64 (IntKind.u64.wrap (IntKind.i64.wrap (((a + i : Nat) : Int) + ((a + j : Nat) : Int)))) 1) = ((a + k : Nat) : Int) := by
          rw [half_val (by omega)]; omega
        have hpc : IntKind.i64.wrap (((a + w + m - 1 : Nat) : Int) - IntKind.i64.wrap (bShr .u64 (IntKind.u64.wrap (IntKind.i64.wrap (((a + i : Nat) : Int) + ((a + j : Nat) : Int)))) 1)) = ((a + A.length + (w - 1 - k) : Nat) : Int) := by
          rw [hc, IntKind.wrap_i64]; omega
        obtain ⟨x, hx⟩ : ∃ z, A[k]? = some z := ⟨_, List.getElem?_eq_getElem (by omega)⟩
        obtain ⟨y, hy⟩ : ∃ z, B[w - 1 - k]? = some z := ⟨_, List.getElem?_eq_getElem (by omega)⟩
        have gx := hds k x hx
        have gy := hdb (w - 1 - k) y hy
        repeat' first | refine aw_seq ?_ | refine aw_region ?_ | refine aw_lex [] ?_ | (refine isA ?_; refine do_F rfl ?_) | (refine isL ?_; refine lex_F rfl (by kernel_rfl) rfl rfl ?_) | (refine isLg rfl ?_; refine lex_S rfl (by kernel_rfl) rfl rfl ?_) | refine do_R rfl (step_shr (n := 1) rfl rfl rfl) rfl ?_ | refine lex_R rfl (by kernel_rfl) rfl (step_shr (n := 1) rfl rfl rfl) rfl ?_ | (refine isAi (x := .tmp 159) ?_; refine do_R rfl (step_ia_sl (j := ((a + A.length + (w - 1 - k) : Nat) : Int)) rfl rfl rfl (Nat.zero_le _) rfl (congrArg I hpc) (Int.natCast_nonneg _) (by omega)) rfl ?_) | (refine isLi (x := .tmp 159) rfl ?_; refine lex_R rfl (by kernel_rfl) rfl (step_ia_sl (j := ((a + A.length + (w - 1 - k) : Nat) : Int)) rfl rfl rfl (Nat.zero_le _) rfl (congrArg I hpc) (Int.natCast_nonneg _) (by omega)) rfl ?_) | (refine isAi (x := .tmp 165) ?_; refine do_R rfl (step_ia_sl (j := ((a + k : Nat) : Int)) rfl rfl rfl (Nat.zero_le _) rfl (congrArg I hc) (Int.natCast_nonneg _) (by omega)) rfl ?_) | (refine isLi (x := .tmp 165) rfl ?_; refine lex_R rfl (by kernel_rfl) rfl (step_ia_sl (j := ((a + k : Nat) : Int)) rfl rfl rfl (Nat.zero_le _) rfl (congrArg I hc) (Int.natCast_nonneg _) (by omega)) rfl ?_) | (refine isAl (x := .tmp 163) ?_; refine do_R rfl (ld_a (T := rwT) (i := 0 + (a + A.length + (w - 1 - k))) (z := y) rfl rfl rfl gy) rfl ?_) | (refine isLl (x := .tmp 163) rfl ?_; refine lex_R rfl (by kernel_rfl) rfl (ld_a (T := rwT) (i := 0 + (a + A.length + (w - 1 - k))) (z := y) rfl rfl rfl gy) rfl ?_) | (refine isAl (x := .tmp 167) ?_; refine do_R rfl (ld_a (T := rwT) (i := 0 + (a + k)) (z := x) rfl rfl rfl gx) rfl ?_) | (refine isLl (x := .tmp 167) rfl ?_; refine lex_R rfl (by kernel_rfl) rfl (ld_a (T := rwT) (i := 0 + (a + k)) (z := x) rfl rfl rfl gx) rfl ?_) | refine do_R rfl (st_callV rfl rfl (c_icmp y x) (.cons (.same rfl) (.cons (.same rfl) .nil)) rfl) rfl ?_ | refine lex_R rfl (by kernel_rfl) rfl (st_callV rfl rfl (c_icmp y x) (.cons (.same rfl) (.cons (.same rfl) .nil)) rfl) rfl ?_ | refine aops_nil ?_ | refine lex_done _ rfl (by kernel_rfl) ?_ | refine aw_ct rfl ?_ | refine aw_cf rfl ?_ | refine aw_block ?_ | with_reducible refine then_n ?_ | refine aw_skip ?_ | refine aw_exit ?_ | (with_reducible first | refine then_x ?_ | refine then_r ?_ | refine block_x ?_ | refine block_n ?_ | refine block_r ?_) | refine aw_ret ?_
        refine aw_cond rfl (fun p => ?_) (fun p => ?_)
        · have q : leW x y := Classical.byContradiction fun hn => by
            have := cmp_neg.2 hn
            simp [this] at p
          repeat' first | refine aw_seq ?_ | refine aw_region ?_ | refine aw_lex [] ?_ | (refine isA ?_; refine do_F rfl ?_) | (refine isL ?_; refine lex_F rfl (by kernel_rfl) rfl rfl ?_) | (refine isLg rfl ?_; refine lex_S rfl (by kernel_rfl) rfl rfl ?_) | refine aops_nil ?_ | refine lex_done _ rfl (by kernel_rfl) ?_ | refine aw_ct rfl ?_ | refine aw_cf rfl ?_ | refine aw_block ?_ | with_reducible refine then_n ?_ | refine aw_skip ?_ | refine aw_exit ?_ | (with_reducible first | refine then_x ?_ | refine then_r ?_ | refine block_x ?_ | refine block_n ?_ | refine block_r ?_) | refine aw_ret ?_
          refine ⟨⟨(k + 1, j), ⟨by simp only; omega, by simp only; omega, j3, fun x' y' _ hx' hy' => ?_, J.hhi⟩⟩, by simp only; omega, ?_⟩
          · simp only [Nat.add_sub_cancel] at hx'
            rw [hx] at hx'
            cases hx'
            rw [show w - (k + 1, j).1 = w - 1 - k by simp only; omega, hy] at hy'
            cases hy'
            exact q
          · exact subm 1 [0] rfl rfl fix1 (by decide) (.cons rfl rfl rfl rfl (les_refl (flat_noH _ _)) .nil) (by
              repeat' first | exact les_nil | refine les_cons ?_ ?_ | exact le_any | exact le_refl rfl | exact le_sl rfl rfl | exact le_k (congrArg _ (show ((a + (k + 1) : Nat) : Int) = IntKind.i64.wrap (IntKind.i64.wrap (bShr .u64 (IntKind.u64.wrap (IntKind.i64.wrap (((a + i : Nat) : Int) + ((a + j : Nat) : Int)))) 1) + 1) by rw [hc, IntKind.wrap_i64]; omega)))
        · have q : leW y x := leW_not (cmp_neg.1 (by simpa using p))
          repeat' first | refine aw_seq ?_ | refine aw_region ?_ | refine aw_lex [] ?_ | (refine isA ?_; refine do_F rfl ?_) | (refine isL ?_; refine lex_F rfl (by kernel_rfl) rfl rfl ?_) | (refine isLg rfl ?_; refine lex_S rfl (by kernel_rfl) rfl rfl ?_) | refine aops_nil ?_ | refine lex_done _ rfl (by kernel_rfl) ?_ | refine aw_ct rfl ?_ | refine aw_cf rfl ?_ | refine aw_block ?_ | with_reducible refine then_n ?_ | refine aw_skip ?_ | refine aw_exit ?_ | (with_reducible first | refine then_x ?_ | refine then_r ?_ | refine block_x ?_ | refine block_n ?_ | refine block_r ?_) | refine aw_ret ?_
          refine ⟨⟨(i, k), ⟨j1, k1.1, by simp only; omega, J.hlo, fun y' x' _ hy' hx' => ?_⟩⟩, by simp only; omega, ?_⟩
          · rw [hx] at hx'
            cases hx'
            rw [hy] at hy'
            cases hy'
            exact q
          · exact subm 1 [0] rfl rfl fix1 (by decide) (.cons rfl rfl rfl rfl (les_refl (flat_noH _ _)) .nil) (by
              repeat' first | exact les_nil | refine les_cons ?_ ?_ | exact le_any | exact le_refl rfl | exact le_sl rfl rfl | exact le_k (congrArg _ hc.symm))
      · obtain rfl : i = j := by have := of_decide_eq_false h; simp only at this; omega
        obtain ⟨u1, u2, u3, u4⟩ := cut_fin hw hA hB J
        have ea : A.take i ++ A.drop i = A := List.take_append_drop _ _
        have eb : B.take (w - i) ++ B.drop (w - i) = B := List.take_append_drop _ _
        have sA1 : Srt (A.take i) := hA.sublist (List.take_sublist _ _)
        have sA2 : Srt (A.drop i) := hA.sublist (List.drop_sublist _ _)
        have sB1 : Srt (B.take (w - i)) := hB.sublist (List.take_sublist _ _)
        have sB2 : Srt (B.drop (w - i)) := hB.sublist (List.drop_sublist _ _)
        have nA1 : (A.take i).length = i := by simp; omega
        have nA2 : (A.drop i).length = A.length - i := by simp
        have nB1 : (B.take (w - i)).length = w - i := by simp; omega
        have nB2 : (B.drop (w - i)).length = B.length - (w - i) := by simp
        have hD' : D = P ++ A.take i ++ A.drop i ++ B.take (w - i) ++ B.drop (w - i) ++ Q := by
          rw [← hD]; simp only [List.append_assoc]; rw [← List.append_assoc (A.take i), ea, ← List.append_assoc (B.take (w - i)), eb]
        generalize A.take i = A1 at *
        generalize A.drop i = A2 at *
        generalize B.take (w - i) = B1 at *
        generalize B.drop (w - i) = B2 at *
        have ee : IntKind.i64.wrap (((a + w + m : Nat) : Int) - ((a + i : Nat) : Int)) = ((m + (w - i) : Nat) : Int) := by rw [IntKind.wrap_i64]; omega
        have r1 : P ++ A1 ++ A2 ++ B1 ++ B2 ++ Q = P ++ A1 ++ B1 ++ A2 ++ B2 ++ Q ∨ (0 < A2.length ∧ 0 < B1.length) := by
          rcases Nat.eq_zero_or_pos A2.length with h | h
          · left; rw [List.eq_nil_of_length_eq_zero h]; simp
          · rcases Nat.eq_zero_or_pos B1.length with k | k
            · left; rw [List.eq_nil_of_length_eq_zero k]; simp
            · exact Or.inr ⟨h, k⟩
        have dl : P.length = a := ha
        have sl1 := srtV_len (A1 ++ B1)
        rw [List.length_append] at sl1
        have hLs : L = a + A1.length + A2.length + B1.length + B2.length + Q.length := by omega
        repeat' first | (refine aw_joinAt 39 ⟨((.sl 0 0 L) :: (I a) :: (I m) :: (I b) :: (.fn 64 []) :: .any :: .any :: .any :: .any :: .any :: .any :: .any :: .any :: .any :: .any :: .any :: .any :: .any :: (I ((a + w : Nat) : Int)) :: .any :: (I ((a + i : Nat) : Int)) :: .any :: .any :: .any :: (I ((m + (w - i) : Nat) : Int)) :: .any :: .any :: .any :: .any :: .any :: .any :: .any :: .any :: .any :: .any :: .any :: .any :: .any :: .any :: .any :: .any :: .any :: .any :: .any :: .any :: .any :: .any :: .any :: .any :: .any :: .any :: .any :: .any :: .any :: .any :: .any :: .any :: .any :: .any :: .any :: .any :: .any :: .any :: .any :: .any :: .any :: .any :: .any :: .any :: .any :: .any :: .any :: .any :: .any :: .any :: .any :: .any :: .any :: .any :: .any :: .any :: .any :: .any :: .any :: .any :: .any :: .any :: .any :: .any :: .any :: .any :: .any :: .any :: .any :: .any :: .any :: .any :: .any :: .any :: .any :: .any :: .any :: .any :: .any :: .any :: .any :: .any :: .any :: .any :: .any :: .any :: .any :: .any :: .any :: .any :: .any :: .any :: .any :: .any :: .any :: .any :: .any :: .any :: .any :: .any :: .any :: .any :: .any :: .any :: .any :: .any :: .any :: .any :: .any :: .any :: .any :: .any :: .any :: .any :: .any :: .any :: .any :: .any :: .any :: .any :: .any :: .any :: .any :: .any :: .any :: .any :: .any :: .any :: .any :: .any :: .any :: .any :: .any :: .any :: .any :: .any :: .any :: .any :: .any :: .any :: .any :: .any :: .any :: .any :: .any :: .any :: .any :: .any :: .any :: .any :: .any :: .any :: .any :: .any :: .any :: .any :: .any :: .any :: .any :: .any :: .any :: .any :: .any :: .any :: .any :: .any :: .any :: .any :: .any :: .any :: .any :: .any :: .any :: .any :: .any :: .any :: .any :: .any :: .any :: .any :: .any :: .any :: .any :: .any :: .any :: .any :: .any :: .any :: .any :: .any :: .any :: .any :: .any :: .any :: .any :: []), [rwR (P ++ A1 ++ B1 ++ A2 ++ B2 ++ Q)], 1⟩ ?_ ?_) | (refine aw_joinAt 41 ⟨((.sl 0 0 L) :: (I a) :: (I m) :: (I b) :: (.fn 64 []) :: .any :: .any :: .any :: .any :: .any :: .any :: .any :: .any :: .any :: .any :: .any :: .any :: .any :: (I ((a + w : Nat) : Int)) :: .any :: (I ((a + i : Nat) : Int)) :: .any :: .any :: .any :: (I ((m + (w - i) : Nat) : Int)) :: .any :: .any :: .any :: .any :: .any :: .any :: .any :: .any :: .any :: .any :: .any :: .any :: .any :: .any :: .any :: .any :: .any :: .any :: .any :: .any :: .any :: .any :: .any :: .any :: .any :: .any :: .any :: .any :: .any :: .any :: .any :: .any :: .any :: .any :: .any :: .any :: .any :: .any :: .any :: .any :: .any :: .any :: .any :: .any :: .any :: .any :: .any :: .any :: .any :: .any :: .any :: .any :: .any :: .any :: .any :: .any :: .any :: .any :: .any :: .any :: .any :: .any :: .any :: .any :: .any :: .any :: .any :: .any :: .any :: .any :: .any :: .any :: .any :: .any :: .any :: .any :: .any :: .any :: .any :: .any :: .any :: .any :: .any :: .any :: .any :: .any :: .any :: .any :: .any :: .any :: .any :: .any :: .any :: .any :: .any :: .any :: .any :: .any :: .any :: .any :: .any :: .any :: .any :: .any :: .any :: .any :: .any :: .any :: .any :: .any :: .any :: .any :: .any :: .any :: .any :: .any :: .any :: .any :: .any :: .any :: .any :: .any :: .any :: .any :: .any :: .any :: .any :: .any :: .any :: .any :: .any :: .any :: .any :: .any :: .any :: .any :: .any :: .any :: .any :: .any :: .any :: .any :: .any :: .any :: .any :: .any :: .any :: .any :: .any :: .any :: .any :: .any :: .any :: .any :: .any :: .any :: .any :: .any :: .any :: .any :: .any :: .any :: .any :: .any :: .any :: .any :: .any :: .any :: .any :: .any :: .any :: .any :: .any :: .any :: .any :: .any :: .any :: .any :: .any :: .any :: .any :: .any :: .any :: .any :: .any :: .any :: .any :: .any :: .any :: .any :: .any :: .any :: .any :: .any :: .any :: []), [rwR (P ++ srtV (A1 ++ B1) ++ A2 ++ B2 ++ Q)], 1⟩ ?_ ?_) | refine aw_seq ?_ | refine aw_region ?_ | refine aw_lex [] ?_ | (refine isA ?_; refine do_F rfl ?_) | (refine isL ?_; refine lex_F rfl (by kernel_rfl) rfl rfl ?_) | (refine isLg rfl ?_; refine lex_S rfl (by kernel_rfl) rfl rfl ?_) | refine aops_nil ?_ | refine lex_done _ rfl (by kernel_rfl) ?_ | refine aw_ct rfl ?_ | refine aw_cf rfl ?_ | refine aw_block ?_ | with_reducible refine then_n ?_ | refine aw_skip ?_ | refine aw_exit ?_ | (with_reducible first | refine then_x ?_ | refine then_r ?_ | refine block_x ?_ | refine block_n ?_ | refine block_r ?_) | refine aw_ret ?_ | refine aw_cond rfl (fun hbr => ?_) (fun hbr => ?_) | (refine isAg ?_; refine do_br rfl rfl (fun hbr => ?_) (fun hbr => ?_) <;> (fail_if_success (with_reducible (have hx : true = true := hbr))) <;> (fail_if_success (with_reducible (have hx : false = false := hbr)))) | (refine isLg rfl ?_; refine lex_br rfl rfl rfl rfl (fun hbr => ?_) (fun hbr => ?_) <;> (fail_if_success (with_reducible (have hx : true = true := hbr))) <;> (fail_if_success (with_reducible (have hx : false = false := hbr))))
        · rename_i h1
          have h1 := of_decide_eq_true h1
          have h2 := of_decide_eq_true hbr
          simp only at h1 h2
          rw [ee] at h2
          have c1 := c_rotX (ds := D) (rs := P ++ A1 ++ B1 ++ A2 ++ B2 ++ Q) (L := L) (a := ((a + i : Nat) : Int)) (m := (m : Int)) (b := IntKind.i64.wrap (((a + w + m : Nat) : Int) - ((a + i : Nat) : Int))) (P ++ A1) A2 B1 (B2 ++ Q) (by rw [hD']; simp only [List.append_assoc]) hL.symm hl (by simp only [List.length_append]; omega) (by simp only [List.length_append]; omega) (by rw [ee]; simp only [List.length_append]; omega) (by omega) (by omega) (by simp only [List.append_assoc])
          repeat' first | refine aw_seq ?_ | refine aw_region ?_ | refine aw_lex [] ?_ | (refine isA ?_; refine do_F rfl ?_) | (refine isL ?_; refine lex_F rfl (by kernel_rfl) rfl rfl ?_) | (refine isLg rfl ?_; refine lex_S rfl (by kernel_rfl) rfl rfl ?_) | (refine isAc 132 ?_; refine do_R rfl (step_callMs (K := []) (Rs' := [_]) [0] (by decide) rfl c1 (.cons rfl rfl rfl (flat_noH _ _) (flat_noH _ _) .nil) (.cons (.sl rfl) (.cons (.same rfl) (.cons (.same rfl) (.cons (.same rfl) (.cons (.same rfl) .nil))))) (fun q hq => by cases hq) rfl) rfl ?_) | (refine isLc 132 rfl ?_; refine lex_R rfl (by kernel_rfl) rfl (step_callMs (K := []) (Rs' := [_]) [0] (by decide) rfl c1 (.cons rfl rfl rfl (flat_noH _ _) (flat_noH _ _) .nil) (.cons (.sl rfl) (.cons (.same rfl) (.cons (.same rfl) (.cons (.same rfl) (.cons (.same rfl) .nil))))) (fun q hq => by cases hq) rfl) rfl ?_) | refine aops_nil ?_ | refine lex_done _ rfl (by kernel_rfl) ?_ | refine aw_ct rfl ?_ | refine aw_cf rfl ?_ | refine aw_block ?_ | with_reducible refine then_n ?_ | refine aw_skip ?_ | refine aw_exit ?_ | (with_reducible first | refine then_x ?_ | refine then_r ?_ | refine block_x ?_ | refine block_n ?_ | refine block_r ?_) | refine aw_ret ?_
          exact ⟨rfl, subm 1 [0] rfl rfl fix1 (by decide) (.cons rfl rfl rfl rfl (les_refl (flat_noH _ _)) .nil) (by
            repeat' first | exact les_nil | refine les_cons ?_ ?_ | exact le_any | exact le_refl rfl | exact le_sl rfl rfl | exact le_k (congrArg _ ee.symm))⟩
        · have h2 := of_decide_eq_false hbr
          simp only at h2
          rw [ee] at h2
          have e := r1.resolve_right (fun h => by omega)
          rw [← hD'] at e
          exact ⟨rfl, subm 1 [0] rfl rfl fix1 (by decide) (.cons rfl rfl rfl rfl (les_eq (congrArg rwT.flat e) (flat_noH _ _)) .nil) (by
            repeat' first | exact les_nil | refine les_cons ?_ ?_ | exact le_any | exact le_refl rfl | exact le_sl rfl rfl | exact le_k (congrArg _ ee.symm))⟩
        · have h2 := of_decide_eq_false hbr
          simp only at h2
          have e := r1.resolve_right (fun h => by omega)
          rw [← hD'] at e
          exact ⟨rfl, subm 1 [0] rfl rfl fix1 (by decide) (.cons rfl rfl rfl rfl (les_eq (congrArg rwT.flat e) (flat_noH _ _)) .nil) (by
            repeat' first | exact les_nil | refine les_cons ?_ ?_ | exact le_any | exact le_refl rfl | exact le_sl rfl rfl | exact le_k (congrArg _ ee.symm))⟩
        · rename_i h1
          have h1 := of_decide_eq_true h1
          have h2 := of_decide_eq_true hbr
          have c1 := (IH P A1 B1 (A2 ++ B2 ++ Q) (by omega) sA1 sB1 (by omega) (by omega) (by simp only [List.length_append]; omega)).x (ds := P ++ A1 ++ B1 ++ A2 ++ B2 ++ Q) (rs := P ++ srtV (A1 ++ B1) ++ A2 ++ B2 ++ Q) (L := L) (a := (a : Int)) (m := ((a + i : Nat) : Int)) (b := ((a + w : Nat) : Int)) (by simp only [List.append_assoc]) (by simp only [List.length_append]; omega) (by omega) (by simp only [List.length_append]; omega) (by simp only [List.length_append]; omega) (by simp only [List.append_assoc])
          repeat' first | refine aw_seq ?_ | refine aw_region ?_ | refine aw_lex [] ?_ | (refine isA ?_; refine do_F rfl ?_) | (refine isL ?_; refine lex_F rfl (by kernel_rfl) rfl rfl ?_) | (refine isLg rfl ?_; refine lex_S rfl (by kernel_rfl) rfl rfl ?_) | (refine isAc 131 ?_; refine do_R rfl (step_callMs (K := []) (Rs' := [_]) [0] (by decide) rfl c1 (.cons rfl rfl rfl (flat_noH _ _) (flat_noH _ _) .nil) (.cons (.sl rfl) (.cons (.same rfl) (.cons (.same rfl) (.cons (.same rfl) (.cons (.same rfl) .nil))))) (fun q hq => by cases hq) rfl) rfl ?_) | (refine isLc 131 rfl ?_; refine lex_R rfl (by kernel_rfl) rfl (step_callMs (K := []) (Rs' := [_]) [0] (by decide) rfl c1 (.cons rfl rfl rfl (flat_noH _ _) (flat_noH _ _) .nil) (.cons (.sl rfl) (.cons (.same rfl) (.cons (.same rfl) (.cons (.same rfl) (.cons (.same rfl) .nil))))) (fun q hq => by cases hq) rfl) rfl ?_) | refine aops_nil ?_ | refine lex_done _ rfl (by kernel_rfl) ?_ | refine aw_ct rfl ?_ | refine aw_cf rfl ?_ | refine aw_block ?_ | with_reducible refine then_n ?_ | refine aw_skip ?_ | refine aw_exit ?_ | (with_reducible first | refine then_x ?_ | refine then_r ?_ | refine block_x ?_ | refine block_n ?_ | refine block_r ?_) | refine aw_ret ?_
          exact ⟨rfl, subm 1 [0] rfl rfl fix1 (by decide) (.cons rfl rfl rfl rfl (les_refl (flat_noH _ _)) .nil) (by
            repeat' first | exact les_nil | refine les_cons ?_ ?_ | exact le_any | exact le_refl rfl | exact le_sl rfl rfl)⟩
        · have h2 := of_decide_eq_false hbr
          have e := srt_cases sA1 sB1 (by omega)
          exact ⟨rfl, subm 1 [0] rfl rfl fix1 (by decide) (.cons rfl rfl rfl rfl (les_eq (congrArg rwT.flat (show P ++ A1 ++ B1 ++ A2 ++ B2 ++ Q = P ++ srtV (A1 ++ B1) ++ A2 ++ B2 ++ Q by rw [← e]; simp only [List.append_assoc])) (flat_noH _ _)) .nil) (by
            repeat' first | exact les_nil | refine les_cons ?_ ?_ | exact le_any | exact le_refl rfl | exact le_sl rfl rfl)⟩
        · have h2 := of_decide_eq_false hbr
          have e := srt_cases sA1 sB1 (by omega)
          exact ⟨rfl, subm 1 [0] rfl rfl fix1 (by decide) (.cons rfl rfl rfl rfl (les_eq (congrArg rwT.flat (show P ++ A1 ++ B1 ++ A2 ++ B2 ++ Q = P ++ srtV (A1 ++ B1) ++ A2 ++ B2 ++ Q by rw [← e]; simp only [List.append_assoc])) (flat_noH _ _)) .nil) (by
            repeat' first | exact les_nil | refine les_cons ?_ ?_ | exact le_any | exact le_refl rfl | exact le_sl rfl rfl)⟩
        · rename_i h1
          have h1 := of_decide_eq_true h1
          have h2 := of_decide_eq_true hbr
          have c1 := (IH (P ++ srtV (A1 ++ B1)) A2 B2 Q (by omega) sA2 sB2 (by omega) (by omega) (by simp only [List.length_append]; omega)).x (ds := P ++ srtV (A1 ++ B1) ++ A2 ++ B2 ++ Q) (rs := P ++ srtV (A ++ B) ++ Q) (L := L) (a := ((a + w : Nat) : Int)) (m := ((m + (w - i) : Nat) : Int)) (b := (b : Int)) rfl (by simp only [List.length_append]; omega) (by simp only [List.length_append]; omega) (by simp only [List.length_append]; omega) (by simp only [List.length_append]; omega) (by rw [← u4]; simp only [List.append_assoc])
          repeat' first | refine aw_seq ?_ | refine aw_region ?_ | refine aw_lex [] ?_ | (refine isA ?_; refine do_F rfl ?_) | (refine isL ?_; refine lex_F rfl (by kernel_rfl) rfl rfl ?_) | (refine isLg rfl ?_; refine lex_S rfl (by kernel_rfl) rfl rfl ?_) | (refine isAc 131 ?_; refine do_R rfl (step_callMs (K := []) (Rs' := [_]) [0] (by decide) rfl c1 (.cons rfl rfl rfl (flat_noH _ _) (flat_noH _ _) .nil) (.cons (.sl rfl) (.cons (.same rfl) (.cons (.same rfl) (.cons (.same rfl) (.cons (.same rfl) .nil))))) (fun q hq => by cases hq) rfl) rfl ?_) | (refine isLc 131 rfl ?_; refine lex_R rfl (by kernel_rfl) rfl (step_callMs (K := []) (Rs' := [_]) [0] (by decide) rfl c1 (.cons rfl rfl rfl (flat_noH _ _) (flat_noH _ _) .nil) (.cons (.sl rfl) (.cons (.same rfl) (.cons (.same rfl) (.cons (.same rfl) (.cons (.same rfl) .nil))))) (fun q hq => by cases hq) rfl) rfl ?_) | exact finMv 1 [0] fix1 (by decide) (.cons rfl rfl rfl rfl (les_refl (flat_noH _ _)) .nil) | refine aops_nil ?_ | refine lex_done _ rfl (by kernel_rfl) ?_ | refine aw_ct rfl ?_ | refine aw_cf rfl ?_ | refine aw_block ?_ | with_reducible refine then_n ?_ | refine aw_skip ?_ | refine aw_exit ?_ | (with_reducible first | refine then_x ?_ | refine then_r ?_ | refine block_x ?_ | refine block_n ?_ | refine block_r ?_) | refine aw_ret ?_
        · have h2 := of_decide_eq_false hbr
          have e := srt_cases sA2 sB2 (by omega)
          exact finMv 1 [0] fix1 (by decide) (.cons rfl rfl rfl rfl (les_eq (congrArg rwT.flat (show P ++ srtV (A1 ++ B1) ++ A2 ++ B2 ++ Q = P ++ srtV (A ++ B) ++ Q by rw [← u4, ← e]; simp only [List.append_assoc])) (flat_noH _ _)) .nil)
        · have h2 := of_decide_eq_false hbr
          have e := srt_cases sA2 sB2 (by omega)
          exact finMv 1 [0] fix1 (by decide) (.cons rfl rfl rfl rfl (les_eq (congrArg rwT.flat (show P ++ srtV (A1 ++ B1) ++ A2 ++ B2 ++ Q = P ++ srtV (A ++ B) ++ Q by rw [← u4, ← e]; simp only [List.append_assoc])) (flat_noH _ _)) .nil)

theorem c_sym : ∀ (N : Nat) (P A B Q : List Rw), A.length + B.length ≤ N → Srt A → Srt B → 0 < A.length → 0 < B.length → (P ++ A ++ B ++ Q).length ≤ 100000000 → SymC P A B Q
  | 0, P, A, B, Q, hn, hA, hB, h0, h1, hl => by omega
  | N + 1, P, A, B, Q, hn, hA, hB, h0, h1, hl => by
    rcases Nat.lt_or_ge A.length 2 with hx | hx
    · obtain ⟨x, rfl⟩ := List.length_eq_one_iff.1 (show A.length = 1 by omega)
      exact c_sym1 P B Q x hB h1 hl
    · rcases Nat.lt_or_ge B.length 2 with hy | hy
      · obtain ⟨x, rfl⟩ := List.length_eq_one_iff.1 (show B.length = 1 by omega)
        exact c_sym2 P A Q x hA hx hl
      · exact c_symM P A B Q hA hB hx hy hl (fun P' A' B' Q' h => c_sym N P' A' B' Q' (by omega))
end Go.Proofs.Ytojcojanokhnaaa.Ab

/- StK -/
namespace Go.Proofs.Ytojcojanokhnaaa.Ab
open Go.RowKit

theorem c_insort0 (xs : List Rw) (a : Nat) (h2 : a ≤ xs.length) (hl : xs.length ≤ 100000000) : Meets Go.Proofs.Try.prog 130 [.sl 0 0 xs.length, I a, I a, .fn 64 []] [rwR xs] (.tup []) [rwR xs] true := by
  refine meets_of [] Go.Proofs.Try.func130 rfl rfl ?_
  simp only [Go.Proofs.Try.ntmps130, List.length_cons, List.length_nil, Nat.reduceAdd, Nat.reduceSub, List.replicate_succ, List.replicate_zero, List.cons_append, List.nil_append]
  repeat' first | refine aw_seq ?_ | refine aw_region ?_ | refine aw_lex [] ?_ | (refine isA ?_; refine do_F rfl ?_) | (refine isL ?_; refine lex_F rfl (by kernel_rfl) rfl rfl ?_) | (refine isLg rfl ?_; refine lex_S rfl (by kernel_rfl) rfl rfl ?_) | refine aops_nil ?_ | refine lex_done _ rfl (by kernel_rfl) ?_ | refine aw_ct rfl ?_ | refine aw_cf rfl ?_ | refine aw_block ?_ | with_reducible refine then_n ?_ | refine aw_skip ?_ | refine aw_exit ?_ | (with_reducible first | refine then_x ?_ | refine then_r ?_ | refine block_x ?_ | refine block_n ?_ | refine block_r ?_) | refine aw_ret ?_
  refine aw_loop (α := Unit) (fun i => ⟨[.sl 0 0 xs.length, I a, I a, .fn 64 [], .any, .any, .any, .any, I ((a + 1 : Nat) : Int), .any, .any, .any, .any, .any, .any, .any, .any, .any, .any, .any, .any, .any, .any, .any, .any, .any, .any, .any, .any, .any, .any, .any, .any, .any, .any, .any, .any, .any, .any, .any, .any, .any, .any, .any, .any, .any, .any, .any, .any, .any, .any, .any, .any], [rwR xs], 1⟩) (fun i => 0) () ?_ ?_
  · exact subm 1 [0] rfl rfl fix1 (by decide) (.cons rfl rfl rfl rfl (les_refl (flat_noH _ _)) .nil) (by
      repeat' first | exact les_nil | refine les_cons ?_ ?_ | exact le_any | exact le_refl rfl | exact le_sl rfl rfl | exact le_k (congrArg _ (show ((a + 1 : Nat) : Int) = IntKind.i64.wrap ((a : Int) + 1) by rw [IntKind.wrap_i64]; omega)))
  · rintro ⟨⟩
    repeat' first | refine aw_seq ?_ | refine aw_region ?_ | refine aw_lex [] ?_ | (refine isA ?_; refine do_F rfl ?_) | (refine isL ?_; refine lex_F rfl (by kernel_rfl) rfl rfl ?_) | (refine isLg rfl ?_; refine lex_S rfl (by kernel_rfl) rfl rfl ?_) | refine aops_nil ?_ | refine lex_done _ rfl (by kernel_rfl) ?_ | refine aw_ct rfl ?_ | refine aw_cf rfl ?_ | refine aw_block ?_ | with_reducible refine then_n ?_ | refine aw_skip ?_ | refine aw_exit ?_ | (with_reducible first | refine then_x ?_ | refine then_r ?_ | refine block_x ?_ | refine block_n ?_ | refine block_r ?_) | refine aw_ret ?_
    refine aw_cond rfl (fun h => absurd (of_decide_eq_true h) (by omega)) (fun h => ?_)
    repeat' first | refine aw_seq ?_ | refine aw_region ?_ | refine aw_lex [] ?_ | (refine isA ?_; refine do_F rfl ?_) | (refine isL ?_; refine lex_F rfl (by kernel_rfl) rfl rfl ?_) | (refine isLg rfl ?_; refine lex_S rfl (by kernel_rfl) rfl rfl ?_) | exact finMv 1 [0] fix1 (by decide) (.cons rfl rfl rfl rfl (les_refl (flat_noH _ _)) .nil) | refine aops_nil ?_ | refine lex_done _ rfl (by kernel_rfl) ?_ | refine aw_ct rfl ?_ | refine aw_cf rfl ?_ | refine aw_block ?_ | with_reducible refine then_n ?_ | refine aw_skip ?_ | refine aw_exit ?_ | (with_reducible first | refine then_x ?_ | refine then_r ?_ | refine block_x ?_ | refine block_n ?_ | refine block_r ?_) | refine aw_ret ?_
theorem c_insX {ds rs : List Rw} {L : Nat} {a b : Int} (U X W : List Rw) (hd : ds = U ++ X ++ W) (hL : L = ds.length) (hl : L ≤ 100000000) (ha : a = (U.length : Int)) (hb : b = ((U ++ X).length : Int)) (hr : rs = U ++ srtV X ++ W) :
    Meets Go.Proofs.Try.prog 130 [.sl 0 0 L, I a, I b, .fn 64 []] [rwR ds] (.tup []) [rwR rs] true := by
  subst hd hL ha hb hr
  rcases Nat.eq_zero_or_pos X.length with h | h
  · rw [List.eq_nil_of_length_eq_zero h]
    have q := c_insort0 (U ++ W) U.length (by simp) (by simp at hl ⊢; omega)
    rw [show srtV ([] : List Rw) = [] from rfl, List.append_nil]
    exact q
  · have q := c_insort (U ++ X ++ W) U.length (U ++ X).length (by simp; omega) (by simp) hl
    have e : srtR (U ++ X ++ W) U.length (U ++ X).length = U ++ srtV X ++ W := by
      unfold srtR
      rw [show (U ++ X ++ W).take U.length = U by rw [List.append_assoc]; exact List.take_left' rfl, show (U ++ X ++ W).drop U.length = X ++ W by rw [List.append_assoc]; exact List.drop_left' rfl, show (U ++ X).length - U.length = X.length by simp, show (X ++ W).take X.length = X from List.take_left' rfl, show (U ++ X ++ W).drop (U ++ X).length = W from List.drop_left' rfl, List.append_assoc]
    rw [e] at q
    exact q

structure Bkk (s : Nat) (xs : List Rw) (p : List Rw × List Rw) : Prop where
  f : Full s p.1
  p : (p.1 ++ p.2).Perm xs
theorem Bkk.len {s : Nat} {xs : List Rw} {p : List Rw × List Rw} (h : Bkk s xs p) : p.1.length + p.2.length = xs.length := by
  have := h.p.length_eq
  rw [List.length_append] at this
  exact this

theorem c_stable (xs : List Rw) (hl : xs.length ≤ 100000000) : Meets Go.Proofs.Try.prog 129 [.sl 0 0 xs.length, I xs.length, .fn 64 []] [rwR xs] (.tup []) [rwR (srtV xs)] true := by
  refine meets_of [] Go.Proofs.Try.func129 rfl rfl ?_
  simp only [Go.Proofs.Try.ntmps129, List.length_cons, List.length_nil, Nat.reduceAdd, Nat.reduceSub, List.replicate_succ, List.replicate_zero, List.cons_append, List.nil_append]
  repeat' first | refine aw_seq ?_ | refine aw_region ?_ | refine aw_lex [] ?_ | (refine isA ?_; refine do_F rfl ?_) | (refine isL ?_; refine lex_F rfl (by kernel_rfl) rfl rfl ?_) | (refine isLg rfl ?_; refine lex_S rfl (by kernel_rfl) rfl rfl ?_) | refine aops_nil ?_ | refine lex_done _ rfl (by kernel_rfl) ?_ | refine aw_ct rfl ?_ | refine aw_cf rfl ?_ | refine aw_block ?_ | with_reducible refine then_n ?_ | refine aw_skip ?_ | refine aw_exit ?_ | (with_reducible first | refine then_x ?_ | refine then_r ?_ | refine block_x ?_ | refine block_n ?_ | refine block_r ?_) | refine aw_ret ?_
  refine aw_loop (α := { p : List Rw × List Rw // Bkk 20 xs p }) (fun p => ⟨((.sl 0 0 xs.length) :: (I xs.length) :: (.fn 64 []) :: .any :: .any :: .any :: (I 20) :: (I p.1.1.length) :: (I ((p.1.1.length + 20 : Nat) : Int)) :: .any :: .any :: .any :: .any :: .any :: .any :: .any :: .any :: .any :: .any :: .any :: .any :: .any :: .any :: .any :: .any :: .any :: .any :: .any :: .any :: .any :: .any :: .any :: .any :: .any :: .any :: .any :: .any :: .any :: .any :: .any :: .any :: .any :: .any :: .any :: .any :: .any :: .any :: .any :: .any :: .any :: .any :: .any :: .any :: .any :: .any :: .any :: .any :: .any :: .any :: .any :: .any :: .any :: .any :: []), [rwR (p.1.1 ++ p.1.2)], 1⟩) (fun p => p.1.2.length) ⟨([], xs), full_nil, .refl _⟩ ?_ ?_
  · exact subm 1 [0] rfl rfl fix1 (by decide) (.cons rfl rfl rfl rfl (les_refl (flat_noH _ _)) .nil) (by repeat' first | exact les_nil | refine les_cons ?_ ?_ | exact le_any | exact le_refl rfl | exact le_sl rfl rfl | exact le_ptr rfl)
  · rintro ⟨⟨U, V⟩, J⟩
    have j1 : U.length + V.length = xs.length := J.len
    have j2 : (U ++ V).Perm xs := J.p
    have j3 : Full 20 U := J.f
    repeat' first | refine aw_seq ?_ | refine aw_region ?_ | refine aw_lex [] ?_ | (refine isA ?_; refine do_F rfl ?_) | (refine isL ?_; refine lex_F rfl (by kernel_rfl) rfl rfl ?_) | (refine isLg rfl ?_; refine lex_S rfl (by kernel_rfl) rfl rfl ?_) | refine aops_nil ?_ | refine lex_done _ rfl (by kernel_rfl) ?_ | refine aw_ct rfl ?_ | refine aw_cf rfl ?_ | refine aw_block ?_ | with_reducible refine then_n ?_ | refine aw_skip ?_ | refine aw_exit ?_ | (with_reducible first | refine then_x ?_ | refine then_r ?_ | refine block_x ?_ | refine block_n ?_ | refine block_r ?_) | refine aw_ret ?_
    refine aw_cond rfl (fun h => ?_) (fun h => ?_)
    · have hlt : 20 ≤ V.length := by have := of_decide_eq_true h; simp only at this; omega
      have t1 : V.take 20 ++ V.drop 20 = V := List.take_append_drop _ _
      have t2 : (V.take 20).length = 20 := by simp; omega
      have t3 := (srtV_perm (V.take 20)).length_eq
      have t4 : (V.drop 20).length = V.length - 20 := by simp
      have c1 := c_insX (ds := U ++ V) (rs := U ++ srtV (V.take 20) ++ V.drop 20) (L := xs.length) (a := (U.length : Int)) (b := ((U.length + 20 : Nat) : Int)) U (V.take 20) (V.drop 20) (by rw [List.append_assoc, t1]) (by rw [List.length_append]; omega) hl rfl (by rw [List.length_append]; omega) rfl
      repeat' first | refine aw_seq ?_ | refine aw_region ?_ | refine aw_lex [] ?_ | (refine isA ?_; refine do_F rfl ?_) | (refine isL ?_; refine lex_F rfl (by kernel_rfl) rfl rfl ?_) | (refine isLg rfl ?_; refine lex_S rfl (by kernel_rfl) rfl rfl ?_) | (refine isAc 130 ?_; refine do_R rfl (step_callMs (K := []) (Rs' := [_]) [0] (by decide) rfl c1 (.cons rfl rfl rfl (flat_noH _ _) (flat_noH _ _) .nil) (.cons (.sl rfl) (.cons (.same rfl) (.cons (.same rfl) (.cons (.same rfl) .nil)))) (fun q hq => by cases hq) rfl) rfl ?_) | (refine isLc 130 rfl ?_; refine lex_R rfl (by kernel_rfl) rfl (step_callMs (K := []) (Rs' := [_]) [0] (by decide) rfl c1 (.cons rfl rfl rfl (flat_noH _ _) (flat_noH _ _) .nil) (.cons (.sl rfl) (.cons (.same rfl) (.cons (.same rfl) (.cons (.same rfl) .nil)))) (fun q hq => by cases hq) rfl) rfl ?_) | refine aops_nil ?_ | refine lex_done _ rfl (by kernel_rfl) ?_ | refine aw_ct rfl ?_ | refine aw_cf rfl ?_ | refine aw_block ?_ | with_reducible refine then_n ?_ | refine aw_skip ?_ | refine aw_exit ?_ | (with_reducible first | refine then_x ?_ | refine then_r ?_ | refine block_x ?_ | refine block_n ?_ | refine block_r ?_) | refine aw_ret ?_
      refine ⟨⟨(U ++ srtV (V.take 20), V.drop 20), full_snoc j3 (by omega) (srtV_srt _), ?_⟩, by simp only; omega, ?_⟩
      · refine List.Perm.trans ?_ j2
        rw [List.append_assoc]
        refine List.Perm.append_left _ ?_
        have := (srtV_perm (V.take 20)).append_right (V.drop 20)
        rw [t1] at this
        exact this
      · exact subm 1 [0] rfl rfl fix1 (by decide) (.cons rfl rfl rfl rfl (les_refl (flat_noH _ _)) .nil) (by
          repeat' first | exact les_nil | refine les_cons ?_ ?_ | exact le_any | exact le_refl rfl | exact le_sl rfl rfl | exact le_k (congrArg _ (show (((U ++ srtV (V.take 20)).length : Nat) : Int) = ((U.length + 20 : Nat) : Int) by rw [List.length_append]; omega)) | exact le_k (congrArg _ (show (((U ++ srtV (V.take 20)).length + 20 : Nat) : Int) = IntKind.i64.wrap (((U.length + 20 : Nat) : Int) + 20) by rw [List.length_append, IntKind.wrap_i64]; omega)))
    · have hge : V.length < 20 := by have := of_decide_eq_false h; simp only at this; omega
      have t3 := (srtV_perm V).length_eq
      have c1 := c_insX (ds := U ++ V) (rs := U ++ srtV V) (L := xs.length) (a := (U.length : Int)) (b := (xs.length : Int)) U V [] (by simp) (by rw [List.length_append]; omega) hl rfl (by rw [List.length_append]; omega) (by simp)
      have b1 : Blk 20 (U ++ srtV V) := full_last j3 (by omega) (srtV_srt _)
      have p1 : (U ++ srtV V).Perm xs := ((srtV_perm V).append_left U).trans j2
      repeat' first | refine aw_seq ?_ | refine aw_region ?_ | refine aw_lex [] ?_ | (refine isA ?_; refine do_F rfl ?_) | (refine isL ?_; refine lex_F rfl (by kernel_rfl) rfl rfl ?_) | (refine isLg rfl ?_; refine lex_S rfl (by kernel_rfl) rfl rfl ?_) | (refine isAc 130 ?_; refine do_R rfl (step_callMs (K := []) (Rs' := [_]) [0] (by decide) rfl c1 (.cons rfl rfl rfl (flat_noH _ _) (flat_noH _ _) .nil) (.cons (.sl rfl) (.cons (.same rfl) (.cons (.same rfl) (.cons (.same rfl) .nil)))) (fun q hq => by cases hq) rfl) rfl ?_) | (refine isLc 130 rfl ?_; refine lex_R rfl (by kernel_rfl) rfl (step_callMs (K := []) (Rs' := [_]) [0] (by decide) rfl c1 (.cons rfl rfl rfl (flat_noH _ _) (flat_noH _ _) .nil) (.cons (.sl rfl) (.cons (.same rfl) (.cons (.same rfl) (.cons (.same rfl) .nil)))) (fun q hq => by cases hq) rfl) rfl ?_) | refine aops_nil ?_ | refine lex_done _ rfl (by kernel_rfl) ?_ | refine aw_ct rfl ?_ | refine aw_cf rfl ?_ | refine aw_block ?_ | with_reducible refine then_n ?_ | refine aw_skip ?_ | refine aw_exit ?_ | (with_reducible first | refine then_x ?_ | refine then_r ?_ | refine block_x ?_ | refine block_n ?_ | refine block_r ?_) | refine aw_ret ?_
      refine aw_loop (α := { p : Nat × List Rw // 20 ≤ p.1 ∧ Blk p.1 p.2 ∧ p.2.Perm xs }) (fun p => ⟨((.sl 0 0 xs.length) :: (I xs.length) :: (.fn 64 []) :: .any :: .any :: .any :: (I p.1.1) :: .any :: .any :: .any :: .any :: .any :: .any :: .any :: .any :: .any :: .any :: .any :: .any :: .any :: .any :: .any :: .any :: .any :: .any :: .any :: .any :: .any :: .any :: .any :: .any :: .any :: .any :: .any :: .any :: .any :: .any :: .any :: .any :: .any :: .any :: .any :: .any :: .any :: .any :: .any :: .any :: .any :: .any :: .any :: .any :: .any :: .any :: .any :: .any :: .any :: .any :: .any :: .any :: .any :: .any :: .any :: .any :: []), [rwR p.1.2], 1⟩) (fun p => xs.length - p.1.1) ⟨(20, U ++ srtV V), Nat.le_refl _, b1, p1⟩ ?_ ?_
      · exact subm 1 [0] rfl rfl fix1 (by decide) (.cons rfl rfl rfl rfl (les_refl (flat_noH _ _)) .nil) (by repeat' first | exact les_nil | refine les_cons ?_ ?_ | exact le_any | exact le_refl rfl | exact le_sl rfl rfl | exact le_ptr rfl)
      · rintro ⟨⟨s, ys⟩, k1, k2, k3⟩
        simp only at k1 k2 k3
        have yl := k3.length_eq
        repeat' first | refine aw_seq ?_ | refine aw_region ?_ | refine aw_lex [] ?_ | (refine isA ?_; refine do_F rfl ?_) | (refine isL ?_; refine lex_F rfl (by kernel_rfl) rfl rfl ?_) | (refine isLg rfl ?_; refine lex_S rfl (by kernel_rfl) rfl rfl ?_) | refine aops_nil ?_ | refine lex_done _ rfl (by kernel_rfl) ?_ | refine aw_ct rfl ?_ | refine aw_cf rfl ?_ | refine aw_block ?_ | with_reducible refine then_n ?_ | refine aw_skip ?_ | refine aw_exit ?_ | (with_reducible first | refine then_x ?_ | refine then_r ?_ | refine block_x ?_ | refine block_n ?_ | refine block_r ?_) | refine aw_ret ?_
        refine aw_cond rfl (fun h => ?_) (fun h => ?_)
        · have hlt : s < xs.length := by have := of_decide_eq_true h; simp only at this; omega
          have e2 : IntKind.i64.wrap (2 * (s : Int)) = ((2 * s : Nat) : Int) := by rw [IntKind.wrap_i64]; omega
          have e2' : IntKind.i64.wrap ((s : Int) * 2) = ((2 * s : Nat) : Int) := by rw [IntKind.wrap_i64]; omega
          repeat' first | refine aw_seq ?_ | refine aw_region ?_ | refine aw_lex [] ?_ | (refine isA ?_; refine do_F rfl ?_) | (refine isL ?_; refine lex_F rfl (by kernel_rfl) rfl rfl ?_) | (refine isLg rfl ?_; refine lex_S rfl (by kernel_rfl) rfl rfl ?_) | refine aops_nil ?_ | refine lex_done _ rfl (by kernel_rfl) ?_ | refine aw_ct rfl ?_ | refine aw_cf rfl ?_ | refine aw_block ?_ | with_reducible refine then_n ?_ | refine aw_skip ?_ | refine aw_exit ?_ | (with_reducible first | refine then_x ?_ | refine then_r ?_ | refine block_x ?_ | refine block_n ?_ | refine block_r ?_) | refine aw_ret ?_
          refine aw_loop (α := { p : List Rw × List Rw // Bkk (2 * s) xs p ∧ Blk s p.2 }) (fun p => ⟨((.sl 0 0 xs.length) :: (I xs.length) :: (.fn 64 []) :: .any :: .any :: .any :: (I s) :: (I p.1.1.length) :: (I ((p.1.1.length + 2 * s : Nat) : Int)) :: .any :: .any :: .any :: .any :: .any :: .any :: .any :: .any :: .any :: .any :: .any :: .any :: .any :: .any :: .any :: .any :: .any :: .any :: .any :: .any :: .any :: .any :: .any :: .any :: .any :: .any :: .any :: .any :: .any :: .any :: .any :: .any :: .any :: .any :: .any :: .any :: .any :: .any :: .any :: .any :: .any :: .any :: .any :: .any :: .any :: .any :: .any :: .any :: .any :: .any :: .any :: .any :: .any :: .any :: []), [rwR (p.1.1 ++ p.1.2)], 1⟩) (fun p => p.1.2.length) ⟨([], ys), ⟨full_nil, k3⟩, k2⟩ ?_ ?_
          · exact subm 1 [0] rfl rfl fix1 (by decide) (.cons rfl rfl rfl rfl (les_refl (flat_noH _ _)) .nil) (by
              repeat' first | exact les_nil | refine les_cons ?_ ?_ | exact le_any | exact le_refl rfl | exact le_sl rfl rfl | exact le_k (congrArg _ (show (((([] : List Rw).length + 2 * s : Nat)) : Int) = IntKind.i64.wrap (2 * (s : Int)) by rw [e2]; simp)))
          · rintro ⟨⟨U, V⟩, J, j4⟩
            have j1 : U.length + V.length = xs.length := J.len
            have j2 : (U ++ V).Perm xs := J.p
            have j3 : Full (2 * s) U := J.f
            simp only at j4
            have ea : IntKind.i64.wrap ((U.length : Int) + s) = ((U.length + s : Nat) : Int) := by rw [IntKind.wrap_i64]; omega
            repeat' first | refine aw_seq ?_ | refine aw_region ?_ | refine aw_lex [] ?_ | (refine isA ?_; refine do_F rfl ?_) | (refine isL ?_; refine lex_F rfl (by kernel_rfl) rfl rfl ?_) | (refine isLg rfl ?_; refine lex_S rfl (by kernel_rfl) rfl rfl ?_) | refine aops_nil ?_ | refine lex_done _ rfl (by kernel_rfl) ?_ | refine aw_ct rfl ?_ | refine aw_cf rfl ?_ | refine aw_block ?_ | with_reducible refine then_n ?_ | refine aw_skip ?_ | refine aw_exit ?_ | (with_reducible first | refine then_x ?_ | refine then_r ?_ | refine block_x ?_ | refine block_n ?_ | refine block_r ?_) | refine aw_ret ?_
            refine aw_cond rfl (fun h => ?_) (fun h => ?_)
            · have hle : 2 * s ≤ V.length := by have := of_decide_eq_true h; simp only at this; omega
              obtain ⟨X, Y, Z, rfl, hX, hY, sX, sY, hZ⟩ := blk_two (by omega) j4 hle
              simp only [List.length_append] at j1
              have t3 := (srtV_perm (X ++ Y)).length_eq
              rw [List.length_append] at t3
              have c1 := (c_sym _ U X Y Z (Nat.le_refl _) sX sY (by omega) (by omega) (by simp only [List.length_append]; omega)).x (ds := U ++ (X ++ Y ++ Z)) (rs := U ++ srtV (X ++ Y) ++ Z) (L := xs.length) (a := (U.length : Int)) (m := IntKind.i64.wrap ((U.length : Int) + s)) (b := ((U.length + 2 * s : Nat) : Int)) (by simp only [List.append_assoc]) (by simp only [List.length_append]; omega) rfl (by rw [ea, List.length_append]; omega) (by simp only [List.length_append]; omega) rfl
              repeat' first | refine aw_seq ?_ | refine aw_region ?_ | refine aw_lex [] ?_ | (refine isA ?_; refine do_F rfl ?_) | (refine isL ?_; refine lex_F rfl (by kernel_rfl) rfl rfl ?_) | (refine isLg rfl ?_; refine lex_S rfl (by kernel_rfl) rfl rfl ?_) | (refine isAc 131 ?_; refine do_R rfl (step_callMs (K := []) (Rs' := [_]) [0] (by decide) rfl c1 (.cons rfl rfl rfl (flat_noH _ _) (flat_noH _ _) .nil) (.cons (.sl rfl) (.cons (.same rfl) (.cons (.same rfl) (.cons (.same rfl) (.cons (.same rfl) .nil))))) (fun q hq => by cases hq) rfl) rfl ?_) | (refine isLc 131 rfl ?_; refine lex_R rfl (by kernel_rfl) rfl (step_callMs (K := []) (Rs' := [_]) [0] (by decide) rfl c1 (.cons rfl rfl rfl (flat_noH _ _) (flat_noH _ _) .nil) (.cons (.sl rfl) (.cons (.same rfl) (.cons (.same rfl) (.cons (.same rfl) (.cons (.same rfl) .nil))))) (fun q hq => by cases hq) rfl) rfl ?_) | refine aops_nil ?_ | refine lex_done _ rfl (by kernel_rfl) ?_ | refine aw_ct rfl ?_ | refine aw_cf rfl ?_ | refine aw_block ?_ | with_reducible refine then_n ?_ | refine aw_skip ?_ | refine aw_exit ?_ | (with_reducible first | refine then_x ?_ | refine then_r ?_ | refine block_x ?_ | refine block_n ?_ | refine block_r ?_) | refine aw_ret ?_
              refine ⟨⟨(U ++ srtV (X ++ Y), Z), ⟨full_snoc j3 (by omega) (srtV_srt _), ?_⟩, hZ⟩, by simp only [List.length_append]; omega, ?_⟩
              · refine List.Perm.trans ?_ j2
                simp only
                rw [List.append_assoc]
                exact List.Perm.append_left _ ((srtV_perm (X ++ Y)).append_right Z)
              · exact subm 1 [0] rfl rfl fix1 (by decide) (.cons rfl rfl rfl rfl (les_refl (flat_noH _ _)) .nil) (by
                  repeat' first | exact les_nil | refine les_cons ?_ ?_ | exact le_any | exact le_refl rfl | exact le_sl rfl rfl | exact le_k (congrArg _ (show (((U ++ srtV (X ++ Y)).length : Nat) : Int) = ((U.length + 2 * s : Nat) : Int) by rw [List.length_append]; omega)) | exact le_k (congrArg _ (show (((U ++ srtV (X ++ Y)).length + 2 * s : Nat) : Int) = IntKind.i64.wrap (((U.length + 2 * s : Nat) : Int) + IntKind.i64.wrap (2 * (s : Int))) by rw [List.length_append, e2, IntKind.wrap_i64]; omega)))
            · have hge : V.length < 2 * s := by have := of_decide_eq_false h; simp only at this; omega
              repeat' first | refine aw_seq ?_ | refine aw_region ?_ | refine aw_lex [] ?_ | (refine isA ?_; refine do_F rfl ?_) | (refine isL ?_; refine lex_F rfl (by kernel_rfl) rfl rfl ?_) | (refine isLg rfl ?_; refine lex_S rfl (by kernel_rfl) rfl rfl ?_) | refine aops_nil ?_ | refine lex_done _ rfl (by kernel_rfl) ?_ | refine aw_ct rfl ?_ | refine aw_cf rfl ?_ | refine aw_block ?_ | with_reducible refine then_n ?_ | refine aw_skip ?_ | refine aw_exit ?_ | (with_reducible first | refine then_x ?_ | refine then_r ?_ | refine block_x ?_ | refine block_n ?_ | refine block_r ?_) | refine aw_ret ?_
              refine aw_cond rfl (fun h2 => ?_) (fun h2 => ?_)
              · have hlt2 : s < V.length := by have := of_decide_eq_true h2; simp only [ea] at this; omega
                obtain ⟨X, Y, rfl, hX, sX, sY, hY⟩ := blk_rest j4 hlt2 hge
                simp only [List.length_append] at j1 hge
                have t3 := (srtV_perm (X ++ Y)).length_eq
                rw [List.length_append] at t3
                have c1 := (c_sym _ U X Y [] (Nat.le_refl _) sX sY (by omega) (by omega) (by simp only [List.length_append, List.length_nil]; omega)).x (ds := U ++ (X ++ Y)) (rs := U ++ srtV (X ++ Y)) (L := xs.length) (a := (U.length : Int)) (m := IntKind.i64.wrap ((U.length : Int) + s)) (b := (xs.length : Int)) (by simp only [List.append_assoc, List.append_nil]) (by simp only [List.length_append]; omega) rfl (by rw [ea, List.length_append]; omega) (by simp only [List.length_append]; omega) (by simp only [List.append_nil])
                repeat' first | refine aw_seq ?_ | refine aw_region ?_ | refine aw_lex [] ?_ | (refine isA ?_; refine do_F rfl ?_) | (refine isL ?_; refine lex_F rfl (by kernel_rfl) rfl rfl ?_) | (refine isLg rfl ?_; refine lex_S rfl (by kernel_rfl) rfl rfl ?_) | (refine isAc 131 ?_; refine do_R rfl (step_callMs (K := []) (Rs' := [_]) [0] (by decide) rfl c1 (.cons rfl rfl rfl (flat_noH _ _) (flat_noH _ _) .nil) (.cons (.sl rfl) (.cons (.same rfl) (.cons (.same rfl) (.cons (.same rfl) (.cons (.same rfl) .nil))))) (fun q hq => by cases hq) rfl) rfl ?_) | (refine isLc 131 rfl ?_; refine lex_R rfl (by kernel_rfl) rfl (step_callMs (K := []) (Rs' := [_]) [0] (by decide) rfl c1 (.cons rfl rfl rfl (flat_noH _ _) (flat_noH _ _) .nil) (.cons (.sl rfl) (.cons (.same rfl) (.cons (.same rfl) (.cons (.same rfl) (.cons (.same rfl) .nil))))) (fun q hq => by cases hq) rfl) rfl ?_) | refine aops_nil ?_ | refine lex_done _ rfl (by kernel_rfl) ?_ | refine aw_ct rfl ?_ | refine aw_cf rfl ?_ | refine aw_block ?_ | with_reducible refine then_n ?_ | refine aw_skip ?_ | refine aw_exit ?_ | (with_reducible first | refine then_x ?_ | refine then_r ?_ | refine block_x ?_ | refine block_n ?_ | refine block_r ?_) | refine aw_ret ?_
                refine ⟨⟨(2 * s, U ++ srtV (X ++ Y)), by simp only; omega, full_last j3 (by omega) (srtV_srt _), ((srtV_perm _).append_left U).trans j2⟩, by simp only; omega, ?_⟩
                exact subm 1 [0] rfl rfl fix1 (by decide) (.cons rfl rfl rfl rfl (les_refl (flat_noH _ _)) .nil) (by
                  repeat' first | exact les_nil | refine les_cons ?_ ?_ | exact le_any | exact le_refl rfl | exact le_sl rfl rfl | exact le_k (congrArg _ e2'.symm))
              · have hge2 : V.length ≤ s := by have := of_decide_eq_false h2; simp only [ea] at this; omega
                repeat' first | refine aw_seq ?_ | refine aw_region ?_ | refine aw_lex [] ?_ | (refine isA ?_; refine do_F rfl ?_) | (refine isL ?_; refine lex_F rfl (by kernel_rfl) rfl rfl ?_) | (refine isLg rfl ?_; refine lex_S rfl (by kernel_rfl) rfl rfl ?_) | refine aops_nil ?_ | refine lex_done _ rfl (by kernel_rfl) ?_ | refine aw_ct rfl ?_ | refine aw_cf rfl ?_ | refine aw_block ?_ | with_reducible refine then_n ?_ | refine aw_skip ?_ | refine aw_exit ?_ | (with_reducible first | refine then_x ?_ | refine then_r ?_ | refine block_x ?_ | refine block_n ?_ | refine block_r ?_) | refine aw_ret ?_
                refine ⟨⟨(2 * s, U ++ V), by simp only; omega, full_last j3 (by omega) (blk_srt j4 hge2), j2⟩, by simp only; omega, ?_⟩
                exact subm 1 [0] rfl rfl fix1 (by decide) (.cons rfl rfl rfl rfl (les_refl (flat_noH _ _)) .nil) (by
                  repeat' first | exact les_nil | refine les_cons ?_ ?_ | exact le_any | exact le_refl rfl | exact le_sl rfl rfl | exact le_k (congrArg _ e2'.symm))
        · have hge : xs.length ≤ s := by have := of_decide_eq_false h; simp only at this; omega
          have e : ys = srtV xs := srtV_of (blk_srt k2 (by omega)) k3
          repeat' first | refine aw_seq ?_ | refine aw_region ?_ | refine aw_lex [] ?_ | (refine isA ?_; refine do_F rfl ?_) | (refine isL ?_; refine lex_F rfl (by kernel_rfl) rfl rfl ?_) | (refine isLg rfl ?_; refine lex_S rfl (by kernel_rfl) rfl rfl ?_) | exact finMv 1 [0] fix1 (by decide) (.cons rfl rfl rfl rfl (les_eq (congrArg rwT.flat e) (flat_noH _ _)) .nil) | refine aops_nil ?_ | refine lex_done _ rfl (by kernel_rfl) ?_ | refine aw_ct rfl ?_ | refine aw_cf rfl ?_ | refine aw_block ?_ | with_reducible refine then_n ?_ | refine aw_skip ?_ | refine aw_exit ?_ | (with_reducible first | refine then_x ?_ | refine then_r ?_ | refine block_x ?_ | refine block_n ?_ | refine block_r ?_) | refine aw_ret ?_

/-- Arguments that mean no less. -/
theorem Meets.args {P : Program} {f : FuncId} {cargs cargs' : List V} {hs : List Reg} {r : V} {hs' : List Reg} {al : Bool} (h : Meets P f cargs hs r hs' al) (hl : cargs'.length = cargs.length) (ha : ∀ A w φ g, Rels A w φ cargs' g → Rels A w φ cargs g) : Meets P f cargs' hs r hs' al :=
  fun A φ w xs hok hr hs => h A φ w xs hok (ha _ _ _ _ hr) (hs.trans hl)
theorem c_sortS (xs : List Rw) (hl : xs.length ≤ 100000000) : Meets Go.Proofs.Try.prog 128 [.sl 0 0 xs.length, .fn 64 []] [rwR xs] (.tup []) [rwR (srtV xs)] true := by
  refine meets_of [] Go.Proofs.Try.func128 rfl rfl ?_
  simp only [Go.Proofs.Try.ntmps128, List.length_cons, List.length_nil, Nat.reduceAdd, Nat.reduceSub, List.replicate_succ, List.replicate_zero, List.cons_append, List.nil_append]
  repeat' first | refine aw_seq ?_ | refine aw_region ?_ | refine aw_lex [] ?_ | (refine isA ?_; refine do_F rfl ?_) | (refine isL ?_; refine lex_F rfl (by kernel_rfl) rfl rfl ?_) | (refine isLg rfl ?_; refine lex_S rfl (by kernel_rfl) rfl rfl ?_) | (refine isAc 129 ?_; refine do_R rfl (step_callMs (K := []) (Rs' := [_]) [0] (by decide) rfl (c_stable xs hl) (.cons rfl rfl rfl (flat_noH _ _) (flat_noH _ _) .nil) (.cons (.sl rfl) (.cons (.same rfl) (.cons (.same rfl) .nil))) (fun q hq => by cases hq) rfl) rfl ?_) | (refine isLc 129 rfl ?_; refine lex_R rfl (by kernel_rfl) rfl (step_callMs (K := []) (Rs' := [_]) [0] (by decide) rfl (c_stable xs hl) (.cons rfl rfl rfl (flat_noH _ _) (flat_noH _ _) .nil) (.cons (.sl rfl) (.cons (.same rfl) (.cons (.same rfl) .nil))) (fun q hq => by cases hq) rfl) rfl ?_) | exact finMv 1 [0] fix1 (by decide) (.cons rfl rfl rfl rfl (les_refl (flat_noH _ _)) .nil) | refine aops_nil ?_ | refine lex_done _ rfl (by kernel_rfl) ?_ | refine aw_ct rfl ?_ | refine aw_cf rfl ?_ | refine aw_block ?_ | with_reducible refine then_n ?_ | refine aw_skip ?_ | refine aw_exit ?_ | (with_reducible first | refine then_x ?_ | refine then_r ?_ | refine block_x ?_ | refine block_n ?_ | refine block_r ?_) | refine aw_ret ?_
theorem c_sortK (xs : List Rw) (hl : xs.length ≤ 100000000) : Meets Go.Proofs.Try.prog 128 [.sl 0 0 xs.length, .k (.func (.func 64) #[] #[])] [rwR xs] (.tup []) [rwR (srtV xs)] true :=
  (c_sortS xs hl).args rfl fun A w φ g h => by
    simp only [Rels, Rel] at h ⊢
    obtain ⟨h1, ⟨y, h2, rfl⟩, _⟩ := h
    exact ⟨h1, ⟨_, h2, #[], rfl, rfl, trivial⟩, trivial⟩
theorem c_isort (xs : List Rw) (hl : xs.length ≤ 100000000) : Meets Go.Proofs.Try.prog 122 [rwL xs] [] (.sl 0 0 (srtV xs).length) [rwR (srtV xs)] false := by
  have e := srtV_len xs
  rw [e]
  refine meets_of [2] Go.Proofs.Try.func122 rfl rfl ?_
  simp only [Go.Proofs.Try.ntmps122, List.length_cons, List.length_nil, Nat.reduceAdd, Nat.reduceSub, List.replicate_succ, List.replicate_zero, List.cons_append, List.nil_append]
  repeat' first | refine aw_seq ?_ | refine aw_region ?_ | refine aw_lex [] ?_ | (refine isA ?_; refine do_F rfl ?_) | (refine isL ?_; refine lex_F rfl (by kernel_rfl) rfl rfl ?_) | (refine isLg rfl ?_; refine lex_S rfl (by kernel_rfl) rfl rfl ?_) | (refine isAc 114 ?_; refine do_R rfl (st_callK rfl (c_clone xs (by omega)) (.cons (.same rfl) .nil) (fun q hq => by simp at hq; subst hq; exact flat_noH _ _) rfl rfl) rfl ?_) | (refine isLc 114 rfl ?_; refine lex_R rfl (by kernel_rfl) rfl (st_callK rfl (c_clone xs (by omega)) (.cons (.same rfl) .nil) (fun q hq => by simp at hq; subst hq; exact flat_noH _ _) rfl rfl) rfl ?_) | (refine isAc 128 ?_; refine do_R rfl (step_callMs (K := []) (Rs' := [_]) [0] (by decide) rfl (c_sortK xs hl) (.cons rfl rfl rfl (flat_noH _ _) (flat_noH _ _) .nil) (.cons (.sl rfl) (.cons (.same rfl) .nil)) (fun q hq => by cases hq) rfl) rfl ?_) | (refine isLc 128 rfl ?_; refine lex_R rfl (by kernel_rfl) rfl (step_callMs (K := []) (Rs' := [_]) [0] (by decide) rfl (c_sortK xs hl) (.cons rfl rfl rfl (flat_noH _ _) (flat_noH _ _) .nil) (.cons (.sl rfl) (.cons (.same rfl) .nil)) (fun q hq => by cases hq) rfl) rfl ?_) | exact finN [0] rfl (hle_of (by decide) (.cons rfl rfl rfl rfl (les_refl (flat_noH _ _)) .nil)) (le_sl rfl rfl) (Or.inr ⟨rfl, fun q hq => by simp at hq; subst hq; exact ⟨Nat.zero_ne_one, fun _ => (flat_rw _).flatS⟩⟩) | refine aops_nil ?_ | refine lex_done _ rfl (by kernel_rfl) ?_ | refine aw_ct rfl ?_ | refine aw_cf rfl ?_ | refine aw_block ?_ | with_reducible refine then_n ?_ | refine aw_skip ?_ | refine aw_exit ?_ | (with_reducible first | refine then_x ?_ | refine then_r ?_ | refine block_x ?_ | refine block_n ?_ | refine block_r ?_) | refine aw_ret ?_
end Go.Proofs.Ytojcojanokhnaaa.Ab
