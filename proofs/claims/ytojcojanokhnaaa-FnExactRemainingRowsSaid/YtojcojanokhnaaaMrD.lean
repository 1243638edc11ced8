/- Texts StC, StD, StE, StF, StB2, StH, StG, StI in one. -/
import Derived.Test.YtojcojanokhnaaaMrC
import Derived.Test.YtojcojanokhnaaaAbW
set_option linter.unusedVariables false
set_option linter.unusedSimpArgs false
set_option maxRecDepth 20000
set_option maxHeartbeats 4000000
/- StC -/
namespace Go.Proofs.Ytojcojanokhnaaa.Ab
open Go.RowKit

/-- The rows from a to b in order, the others as they were. -/
def srtR (xs : List Rw) (a b : Nat) : List Rw := xs.take a ++ (srtV ((xs.drop a).take (b - a)) ++ xs.drop b)
theorem srtR_one {xs : List Rw} {a : Nat} (h : a < xs.length) : srtR xs a (a + 1) = xs := by
  obtain ⟨x, hx⟩ : ∃ z, xs[a]? = some z := ⟨_, List.getElem?_eq_getElem h⟩
  have e : xs.drop a = x :: xs.drop (a + 1) := take_drop1 hx
  rw [srtR, e, show a + 1 - a = 1 by omega]
  show xs.take a ++ ([x] ++ xs.drop (a + 1)) = xs
  rw [List.singleton_append, ← e, List.take_append_drop]
theorem srtR_self {xs : List Rw} {a : Nat} : srtR xs a a = xs := by
  rw [srtR, Nat.sub_self, List.take_zero]
  show xs.take a ++ ([] ++ xs.drop a) = xs
  rw [List.nil_append, List.take_append_drop]
theorem srtR_len {xs : List Rw} {a b : Nat} (h1 : a ≤ b) (h2 : b ≤ xs.length) : (srtR xs a b).length = xs.length := by
  simp only [srtR, List.length_append, srtV_len, List.length_take, List.length_drop]; omega
theorem srtR_step {xs : List Rw} {a i : Nat} {x : Rw} (h : a ≤ i) (hx : xs[i]? = some x) : srtV ((xs.drop a).take (i + 1 - a)) = insV x (srtV ((xs.drop a).take (i - a))) := by
  have : (xs.drop a)[i - a]? = some x := by rw [List.getElem?_drop, show a + (i - a) = i by omega]; exact hx
  rw [show i + 1 - a = (i - a) + 1 by omega, List.take_add_one, this]
  exact srtV_snoc _ _
theorem ins_split {A B : List Rw} {x : Rw} (hs : Srt (A ++ B)) (hB : ∀ z ∈ B, ¬ leW z x) (hA : ∀ y A', A = A' ++ [y] → leW y x) : A ++ x :: B = insV x (A ++ B) := by
  have h := ins_at (k := A.length) hs (by simp) (fun j z hj hz => by
    rw [List.getElem?_append_right hj] at hz
    exact hB z (List.mem_of_getElem? hz)) (fun z h0 hz => by
    rw [List.getElem?_append_left (by omega)] at hz
    refine hA z A.dropLast ?_
    have hne : A ≠ [] := by intro e; subst e; simp at h0
    have : A.getLast hne = z := by
      rw [List.getLast_eq_getElem]
      exact (List.getElem?_eq_some_iff.1 hz).2
    rw [← this]
    exact (List.dropLast_concat_getLast hne).symm)
  rw [List.take_left', List.drop_left'] at h
  · exact h
  · rfl
  · rfl
theorem swap_at {U W : List Rw} {x y : Rw} {u : Nat} (hu : U.length = u) : ((U ++ y :: x :: W).set (u + 1) y).set u x = U ++ x :: y :: W := by
  subst hu
  rw [List.set_append_right _ _ (by omega), show U.length + 1 - U.length = 1 by omega]
  show (U ++ y :: y :: W).set U.length x = _
  rw [List.set_append_right _ _ (Nat.le_refl _), Nat.sub_self]
  rfl
theorem finMv {l : List V} {H : List Reg} {K : List Reg} (k : Nat) (ψ : List Nat) (hfix : ∀ i, i < k → ψ[i]? = some i) (hnd : ψ.Nodup) (hH : HLes ψ H ψ K) : (Exit.normal = .ret ∨ Exit.normal = .normal) ∧ Out true (.tup []) K (resV ⟨l, H, k⟩ []) ⟨l, H, k⟩ :=
  ⟨Or.inr rfl, out_of (S := ⟨l, H, k⟩) ψ hfix (hle_of hnd hH) (le_tup les_nil) (Or.inl rfl)⟩

theorem c_insort (xs : List Rw) (a b : Nat) (h1 : a < b) (h2 : b ≤ xs.length) (hl : xs.length ≤ 100000000) : Meets Go.Proofs.Try.prog 130 [.sl 0 0 xs.length, I a, I b, .fn 64 []] [rwR xs] (.tup []) [rwR (srtR xs a b)] true := by
  refine meets_of [] Go.Proofs.Try.func130 rfl rfl ?_
  simp only [Go.Proofs.Try.ntmps130, List.length_cons, List.length_nil, Nat.reduceAdd, Nat.reduceSub, List.replicate_succ, List.replicate_zero, List.cons_append, List.nil_append]
  repeat' first
    | refine aw_seq ?_
    | refine aw_region ?_
    | refine aw_lex [] ?_
    | (refine isA ?_; refine do_F rfl ?_)
    | (refine isL ?_; refine lex_F rfl (by kernel_rfl) rfl rfl ?_)
    | (refine isLg rfl ?_; refine lex_S rfl (by kernel_rfl) rfl rfl ?_)
    | refine aops_nil ?_
    | refine lex_done _ rfl (by kernel_rfl) ?_
    | refine aw_ct rfl ?_
    | refine aw_cf rfl ?_
    | refine aw_block ?_
    | refine then_n ?_
    | refine aw_skip ?_
    | refine aw_exit ?_
    | refine then_x ?_
    | refine then_r ?_
    | refine block_x ?_
    | refine block_n ?_
    | refine block_r ?_
    | refine aw_ret ?_
  refine aw_loop (α := { i : Nat // a + 1 ≤ i ∧ i ≤ b }) (fun i => ⟨[.sl 0 0 xs.length, I a, I b, .fn 64 [], .any, .any, .any, .any, I i.1, .any, .any, .any, .any, .any, .any, .any, .any, .any, .any, .any, .any, .any, .any, .any, .any, .any, .any, .any, .any, .any, .any, .any, .any, .any, .any, .any, .any, .any, .any, .any, .any, .any, .any, .any, .any, .any, .any, .any, .any, .any, .any, .any, .any], [rwR (srtR xs a i.1)], 1⟩) (fun i => b - i.1) ⟨a + 1, Nat.le_refl _, h1⟩ ?_ ?_
  · exact subm 1 [0] rfl rfl fix1 (by decide) (.cons rfl rfl rfl rfl (les_eq (by rw [srtR_one (by omega)]) (flat_noH _ _)) .nil) (by
      repeat' first
        | exact les_nil
        | refine les_cons ?_ ?_
        | exact le_any
        | exact le_refl rfl
        | exact le_sl rfl rfl
        | exact le_k (congrArg _ (show ((a + 1 : Nat) : Int) = IntKind.i64.wrap ((a : Int) + 1) by rw [IntKind.wrap_i64]; omega)))
  · rintro ⟨i, hi0, hi1⟩
    repeat' first
      | refine aw_seq ?_
      | refine aw_region ?_
      | refine aw_lex [] ?_
      | (refine isA ?_; refine do_F rfl ?_)
      | (refine isL ?_; refine lex_F rfl (by kernel_rfl) rfl rfl ?_)
      | (refine isLg rfl ?_; refine lex_S rfl (by kernel_rfl) rfl rfl ?_)
      | refine aops_nil ?_
      | refine lex_done _ rfl (by kernel_rfl) ?_
      | refine aw_ct rfl ?_
      | refine aw_cf rfl ?_
      | refine aw_block ?_
      | refine then_n ?_
      | refine aw_skip ?_
      | refine aw_exit ?_
      | refine then_x ?_
      | refine then_r ?_
      | refine block_x ?_
      | refine block_n ?_
      | refine block_r ?_
      | refine aw_ret ?_
    refine aw_cond rfl (fun h => ?_) (fun h => ?_)
    · have hlt : i < b := by have := of_decide_eq_true h; simp only at this; omega
      obtain ⟨x, hx⟩ : ∃ z, xs[i]? = some z := ⟨_, List.getElem?_eq_getElem (by omega)⟩
      have e1 := srtR_step (a := a) (by omega) hx
      have hso := srtV_srt ((xs.drop a).take (i - a))
      have hol : (srtV ((xs.drop a).take (i - a))).length = i - a := by rw [srtV_len]; simp; omega
      have eR : srtR xs a (i + 1) = xs.take a ++ (srtV ((xs.drop a).take (i + 1 - a)) ++ xs.drop (i + 1)) := rfl
      have e0 : srtR xs a i = xs.take a ++ (srtV ((xs.drop a).take (i - a)) ++ x :: xs.drop (i + 1)) := by rw [srtR, take_drop1 hx]
      rw [e1] at eR
      generalize srtV ((xs.drop a).take (i - a)) = S at e0 eR hso hol
      have hP : (xs.take a).length = a := by simp; omega
      have hR : (xs.drop (i + 1)).length = xs.length - (i + 1) := by simp
      generalize xs.take a = P at e0 eR hP
      generalize xs.drop (i + 1) = R at e0 eR hR
      repeat' first
        | refine aw_seq ?_
        | refine aw_region ?_
        | refine aw_lex [] ?_
        | (refine isA ?_; refine do_F rfl ?_)
        | (refine isL ?_; refine lex_F rfl (by kernel_rfl) rfl rfl ?_)
        | (refine isLg rfl ?_; refine lex_S rfl (by kernel_rfl) rfl rfl ?_)
        | refine aops_nil ?_
        | refine lex_done _ rfl (by kernel_rfl) ?_
        | refine aw_ct rfl ?_
        | refine aw_cf rfl ?_
        | refine aw_block ?_
        | refine then_n ?_
        | refine aw_skip ?_
        | refine aw_exit ?_
        | refine then_x ?_
        | refine then_r ?_
        | refine block_x ?_
        | refine block_n ?_
        | refine block_r ?_
        | refine aw_ret ?_
      refine aw_loop (α := { p : List Rw × List Rw // p.1 ++ p.2 = S ∧ ∀ z ∈ p.2, ¬ leW z x }) (fun p => ⟨[.sl 0 0 xs.length, I a, I b, .fn 64 [], .any, .any, .any, .any, I i, I ((a + p.1.1.length : Nat) : Int), .any, .any, .any, .any, .any, .any, .any, .any, .any, .any, .any, .any, .any, .any, .any, .any, .any, .any, .any, .any, .any, .any, .any, .any, .any, .any, .any, .any, .any, .any, .any, .any, .any, .any, .any, .any, .any, .any, .any, .any, .any, .any, .any], [rwR (P ++ p.1.1 ++ x :: p.1.2 ++ R)], 1⟩) (fun p => p.1.1.length) ⟨(S, []), List.append_nil _, fun z hz => by cases hz⟩ ?_ ?_
      · exact subm 1 [0] rfl rfl fix1 (by decide) (.cons rfl rfl rfl rfl (les_eq (by rw [e0]; show rwT.flat _ = rwT.flat _; simp) (flat_noH _ _)) .nil) (by
          repeat' first
            | exact les_nil
            | refine les_cons ?_ ?_
            | exact le_any
            | exact le_refl rfl
            | exact le_sl rfl rfl
            | exact le_k (congrArg _ (show ((a + S.length : Nat) : Int) = (i : Int) by omega)))
      · rintro ⟨⟨A, B⟩, hAB, hB⟩
        simp only at hAB hB
        have hlen : A.length + B.length = i - a := by rw [← hol, ← hAB, List.length_append]
        repeat' first
          | refine aw_seq ?_
          | refine aw_region ?_
          | refine aw_lex [] ?_
          | (refine isA ?_; refine do_F rfl ?_)
          | (refine isL ?_; refine lex_F rfl (by kernel_rfl) rfl rfl ?_)
          | (refine isLg rfl ?_; refine lex_S rfl (by kernel_rfl) rfl rfl ?_)
          | refine aops_nil ?_
          | refine lex_done _ rfl (by kernel_rfl) ?_
          | refine aw_ct rfl ?_
          | refine aw_cf rfl ?_
          | refine aw_block ?_
          | refine then_n ?_
          | refine aw_skip ?_
          | refine aw_exit ?_
          | refine then_x ?_
          | refine then_r ?_
          | refine block_x ?_
          | refine block_n ?_
          | refine block_r ?_
          | refine aw_ret ?_
        refine lex_br rfl rfl rfl rfl (fun p1 => ?_) (fun p1 => ?_)
        · have q1 : 0 < A.length := by have := of_decide_eq_true p1; simp only at this; omega
          obtain ⟨A', y, rfl⟩ : ∃ A' y, A = A' ++ [y] := ⟨A.dropLast, A.getLast (by intro e; subst e; simp at q1), (List.dropLast_concat_getLast _).symm⟩
          have ej : ((a + (A' ++ [y]).length : Nat) : Int) = ((a + A'.length + 1 : Nat) : Int) := by simp; omega
          have ew : IntKind.i64.wrap (((a + (A' ++ [y]).length : Nat) : Int) - 1) = ((a + A'.length : Nat) : Int) := by rw [IntKind.wrap_i64]; simp; omega
          have hlA : (A' ++ [y]).length = A'.length + 1 := by simp
          have hds : P ++ (A' ++ [y]) ++ x :: B ++ R = (P ++ A') ++ y :: x :: (B ++ R) := by simp
          have hu : (P ++ A').length = a + A'.length := by simp [hP]
          have g1 : (P ++ (A' ++ [y]) ++ x :: B ++ R)[0 + (a + A'.length + 1)]? = some x := by
            rw [hds, List.getElem?_append_right (by omega), hu, show 0 + (a + A'.length + 1) - (a + A'.length) = 1 by omega]; rfl
          have g0 : (P ++ (A' ++ [y]) ++ x :: B ++ R)[0 + (a + A'.length)]? = some y := by
            rw [hds, List.getElem?_append_right (by omega), hu, show 0 + (a + A'.length) - (a + A'.length) = 0 by omega]; rfl
          repeat' first
            | refine aw_seq ?_
            | refine aw_region ?_
            | refine aw_lex [] ?_
            | (refine isA ?_; refine do_F rfl ?_)
            | (refine isL ?_; refine lex_F rfl (by kernel_rfl) rfl rfl ?_)
            | (refine isLg rfl ?_; refine lex_S rfl (by kernel_rfl) rfl rfl ?_)
            | (refine isAi (x := .tmp 23) ?_; refine do_R rfl (step_ia_sl (j := ((a + A'.length + 1 : Nat) : Int)) rfl rfl rfl (Nat.zero_le _) rfl (congrArg I ej) (Int.natCast_nonneg _) (by omega)) rfl ?_)
            | (refine isLi (x := .tmp 23) rfl ?_; refine lex_R rfl (by kernel_rfl) rfl (step_ia_sl (j := ((a + A'.length + 1 : Nat) : Int)) rfl rfl rfl (Nat.zero_le _) rfl (congrArg I ej) (Int.natCast_nonneg _) (by omega)) rfl ?_)
            | (refine isAi (x := .tmp 27) ?_; refine do_R rfl (step_ia_sl (j := ((a + A'.length : Nat) : Int)) rfl rfl rfl (Nat.zero_le _) rfl (congrArg I ew) (Int.natCast_nonneg _) (by omega)) rfl ?_)
            | (refine isLi (x := .tmp 27) rfl ?_; refine lex_R rfl (by kernel_rfl) rfl (step_ia_sl (j := ((a + A'.length : Nat) : Int)) rfl rfl rfl (Nat.zero_le _) rfl (congrArg I ew) (Int.natCast_nonneg _) (by omega)) rfl ?_)
            | (refine isAl (x := .tmp 25) ?_; refine do_R rfl (ld_a (T := rwT) (i := 0 + (a + A'.length + 1)) (z := x) rfl rfl rfl g1) rfl ?_)
            | (refine isLl (x := .tmp 25) rfl ?_; refine lex_R rfl (by kernel_rfl) rfl (ld_a (T := rwT) (i := 0 + (a + A'.length + 1)) (z := x) rfl rfl rfl g1) rfl ?_)
            | (refine isAl (x := .tmp 30) ?_; refine do_R rfl (ld_a (T := rwT) (i := 0 + (a + A'.length)) (z := y) rfl rfl rfl g0) rfl ?_)
            | (refine isLl (x := .tmp 30) rfl ?_; refine lex_R rfl (by kernel_rfl) rfl (ld_a (T := rwT) (i := 0 + (a + A'.length)) (z := y) rfl rfl rfl g0) rfl ?_)
            | refine do_R rfl (st_callV rfl rfl (c_icmp x y) (.cons (.same rfl) (.cons (.same rfl) .nil)) rfl) rfl ?_
            | refine lex_R rfl (by kernel_rfl) rfl (st_callV rfl rfl (c_icmp x y) (.cons (.same rfl) (.cons (.same rfl) .nil)) rfl) rfl ?_
            | refine aops_nil ?_
            | refine lex_done _ rfl (by kernel_rfl) ?_
            | refine aw_ct rfl ?_
            | refine aw_cf rfl ?_
            | refine aw_block ?_
            | refine then_n ?_
            | refine aw_skip ?_
            | refine aw_exit ?_
            | refine then_x ?_
            | refine then_r ?_
            | refine block_x ?_
            | refine block_n ?_
            | refine block_r ?_
            | refine aw_ret ?_
          refine aw_cond rfl (fun p2 => ?_) (fun p2 => ?_)
          · have q2 := cmp_neg.1 (of_decide_eq_true p2)
            repeat' first
              | refine aw_seq ?_
              | refine aw_region ?_
              | (refine isA ?_; refine do_F rfl ?_)
              | (refine isL ?_; refine lex_F rfl (by kernel_rfl) rfl rfl ?_)
              | (refine isLg rfl ?_; refine lex_S rfl (by kernel_rfl) rfl rfl ?_)
              | refine aops_nil ?_
              | refine lex_done _ rfl (by kernel_rfl) ?_
              | refine aw_ct rfl ?_
              | refine aw_cf rfl ?_
              | refine aw_block ?_
              | refine then_n ?_
              | refine aw_skip ?_
              | refine aw_exit ?_
              | refine then_x ?_
              | refine then_r ?_
              | refine block_x ?_
              | refine block_n ?_
              | refine block_r ?_
              | refine aw_ret ?_
            refine aw_per [15, 17] 18 rfl ?_
            refine per_P 0 rfl (by kernel_rfl) rfl (fun _ => rfl) rfl ?_
            refine per_P 1 rfl (by kernel_rfl) rfl (fun _ => rfl) rfl ?_
            refine per_P 2 rfl (by kernel_rfl) rfl (fun _ => rfl) rfl ?_
            refine per_P 3 rfl (by kernel_rfl) rfl (fun _ => rfl) rfl ?_
            refine per_P 4 rfl (by kernel_rfl) rfl (fun _ => rfl) rfl ?_
            refine per_P 5 rfl (by kernel_rfl) rfl (fun _ => rfl) rfl ?_
            refine per_P 6 rfl (by kernel_rfl) rfl (fun _ => rfl) rfl ?_
            refine per_P 7 rfl (by kernel_rfl) rfl (fun _ => rfl) rfl ?_
            refine per_R 8 rfl (by kernel_rfl) rfl (step_ia_sl (j := ((a + A'.length : Nat) : Int)) rfl rfl rfl (Nat.zero_le _) rfl (congrArg I ew) (Int.natCast_nonneg _) (by omega)) rfl ?_
            refine per_R 9 rfl (by kernel_rfl) rfl (ld_a (T := rwT) (i := 0 + (a + A'.length)) (z := y) rfl rfl rfl g0) rfl ?_
            refine per_P 10 rfl (by kernel_rfl) rfl (fun _ => rfl) rfl ?_
            refine per_P 11 rfl (by kernel_rfl) rfl (fun _ => rfl) rfl ?_
            refine per_R 12 rfl (by kernel_rfl) rfl (step_ia_sl (j := ((a + A'.length + 1 : Nat) : Int)) rfl rfl rfl (Nat.zero_le _) rfl (congrArg I ej) (Int.natCast_nonneg _) (by omega)) rfl ?_
            refine per_R 13 rfl (by kernel_rfl) rfl (ld_a (T := rwT) (i := 0 + (a + A'.length + 1)) (z := x) rfl rfl rfl g1) rfl ?_
            refine per_R 14 rfl (by kernel_rfl) rfl (step_ia_sl (j := ((a + A'.length + 1 : Nat) : Int)) rfl rfl rfl (Nat.zero_le _) rfl (congrArg I ej) (Int.natCast_nonneg _) (by omega)) rfl ?_
            refine per_W 15 rfl (by kernel_rfl) rfl rfl (set_l (T := rwT) (i := 0 + (a + A'.length + 1)) (z := y) rfl rfl rfl rfl rfl (List.getElem?_eq_some_iff.1 g1).1) rfl ?_
            refine per_R 16 rfl (by kernel_rfl) rfl (step_ia_sl (j := ((a + A'.length : Nat) : Int)) rfl rfl rfl (Nat.zero_le _) rfl (congrArg I ew) (Int.natCast_nonneg _) (by omega)) rfl ?_
            refine per_W 17 rfl (by kernel_rfl) rfl rfl (set_l (T := rwT) (i := 0 + (a + A'.length)) (z := x) rfl rfl rfl rfl rfl (by rw [List.length_set]; exact (List.getElem?_eq_some_iff.1 g0).1)) rfl ?_
            refine per_done (by kernel_rfl) ?_
            repeat' first
              | refine aw_seq ?_
              | refine aw_region ?_
              | refine aw_lex [] ?_
              | (refine isA ?_; refine do_F rfl ?_)
              | (refine isL ?_; refine lex_F rfl (by kernel_rfl) rfl rfl ?_)
              | (refine isLg rfl ?_; refine lex_S rfl (by kernel_rfl) rfl rfl ?_)
              | refine aops_nil ?_
              | refine lex_done _ rfl (by kernel_rfl) ?_
              | refine aw_ct rfl ?_
              | refine aw_cf rfl ?_
              | refine aw_block ?_
              | refine then_n ?_
              | refine aw_skip ?_
              | refine aw_exit ?_
              | refine then_x ?_
              | refine then_r ?_
              | refine block_x ?_
              | refine block_n ?_
              | refine block_r ?_
              | refine aw_ret ?_
            refine ⟨⟨(A', y :: B), by rw [← hAB]; simp, fun z hz => by
              rcases List.mem_cons.1 hz with rfl | hz
              · exact q2
              · exact hB z hz⟩, by simp only; omega, ?_⟩
            exact subm 1 [0] rfl rfl fix1 (by decide) (.cons rfl rfl rfl rfl (les_eq (show rwT.flat (((P ++ (A' ++ [y]) ++ x :: B ++ R).set (0 + (a + A'.length + 1)) y).set (0 + (a + A'.length)) x) = rwT.flat (P ++ A' ++ x :: (y :: B) ++ R) by rw [hds, Nat.zero_add, Nat.zero_add, swap_at hu]; simp) (flat_noH _ _)) .nil) (by
              repeat' first
                | exact les_nil
                | refine les_cons ?_ ?_
                | exact le_any
                | exact le_refl rfl
                | exact le_sl rfl rfl
                | exact le_k (congrArg _ ew.symm))
          · have q2 : leW y x := Classical.byContradiction fun hn => by have := cmp_neg.2 hn; exact absurd this (of_decide_eq_false p2)
            have hfin := ins_split (x := x) (hAB ▸ hso) hB (fun z D hD => by have := List.append_inj' hD rfl; obtain ⟨_, hz⟩ := this; cases hz; exact q2)
            repeat' first
              | refine aw_seq ?_
              | refine aw_region ?_
              | refine aw_lex [] ?_
              | (refine isA ?_; refine do_F rfl ?_)
              | (refine isL ?_; refine lex_F rfl (by kernel_rfl) rfl rfl ?_)
              | (refine isLg rfl ?_; refine lex_S rfl (by kernel_rfl) rfl rfl ?_)
              | refine aops_nil ?_
              | refine lex_done _ rfl (by kernel_rfl) ?_
              | refine aw_ct rfl ?_
              | refine aw_cf rfl ?_
              | refine aw_block ?_
              | refine then_n ?_
              | refine aw_skip ?_
              | refine aw_exit ?_
              | refine then_x ?_
              | refine then_r ?_
              | refine block_x ?_
              | refine block_n ?_
              | refine block_r ?_
              | refine aw_ret ?_
            refine ⟨⟨i + 1, by omega, by omega⟩, by simp only; omega, ?_⟩
            exact subm 1 [0] rfl rfl fix1 (by decide) (.cons rfl rfl rfl rfl (les_eq (show rwT.flat (P ++ (A' ++ [y]) ++ x :: B ++ R) = rwT.flat (srtR xs a (i + 1)) by rw [eR, ← hAB, ← hfin]; simp) (flat_noH _ _)) .nil) (by
              repeat' first
                | exact les_nil
                | refine les_cons ?_ ?_
                | exact le_any
                | exact le_refl rfl
                | exact le_sl rfl rfl
                | exact le_i hlt (by omega))
        · have q1 : A.length = 0 := by have := of_decide_eq_false p1; simp only at this; omega
          obtain rfl : A = [] := List.eq_nil_of_length_eq_zero q1
          have hfin := ins_split (x := x) (hAB ▸ hso) hB (fun z D hD => by simp at hD)
          repeat' first
            | refine aw_seq ?_
            | refine aw_region ?_
            | refine aw_lex [] ?_
            | (refine isA ?_; refine do_F rfl ?_)
            | (refine isL ?_; refine lex_F rfl (by kernel_rfl) rfl rfl ?_)
            | (refine isLg rfl ?_; refine lex_S rfl (by kernel_rfl) rfl rfl ?_)
            | refine aops_nil ?_
            | refine lex_done _ rfl (by kernel_rfl) ?_
            | refine aw_ct rfl ?_
            | refine aw_cf rfl ?_
            | refine aw_block ?_
            | refine then_n ?_
            | refine aw_skip ?_
            | refine aw_exit ?_
            | refine then_x ?_
            | refine then_r ?_
            | refine block_x ?_
            | refine block_n ?_
            | refine block_r ?_
            | refine aw_ret ?_
          refine ⟨⟨i + 1, by omega, by omega⟩, by simp only; omega, ?_⟩
          exact subm 1 [0] rfl rfl fix1 (by decide) (.cons rfl rfl rfl rfl (les_eq (show rwT.flat (P ++ [] ++ x :: B ++ R) = rwT.flat (srtR xs a (i + 1)) by rw [eR, ← hAB, ← hfin]; simp) (flat_noH _ _)) .nil) (by
            repeat' first
              | exact les_nil
              | refine les_cons ?_ ?_
              | exact le_any
              | exact le_refl rfl
              | exact le_sl rfl rfl
              | exact le_i hlt (by omega))
    · have hge : i = b := by have := of_decide_eq_false h; simp only at this; omega
      subst hge
      repeat' first
        | refine aw_seq ?_
        | refine aw_region ?_
        | refine aw_lex [] ?_
        | (refine isA ?_; refine do_F rfl ?_)
        | (refine isL ?_; refine lex_F rfl (by kernel_rfl) rfl rfl ?_)
        | (refine isLg rfl ?_; refine lex_S rfl (by kernel_rfl) rfl rfl ?_)
        | exact finMv 1 [0] fix1 (by decide) (.cons rfl rfl rfl rfl (les_refl (flat_noH _ _)) .nil)
        | refine aops_nil ?_
        | refine lex_done _ rfl (by kernel_rfl) ?_
        | refine aw_ct rfl ?_
        | refine aw_cf rfl ?_
        | refine aw_block ?_
        | refine then_n ?_
        | refine aw_skip ?_
        | refine aw_exit ?_
        | refine then_x ?_
        | refine then_r ?_
        | refine block_x ?_
        | refine block_n ?_
        | refine block_r ?_
        | refine aw_ret ?_
end Go.Proofs.Ytojcojanokhnaaa.Ab

/- StD -/
namespace Go.Proofs.Ytojcojanokhnaaa.Ab
open Go.RowKit

/-- The first i places exchanged. -/
def swpL (P X M Y Q : List Rw) (i : Nat) : List Rw := P ++ (Y.take i ++ X.drop i) ++ M ++ (X.take i ++ Y.drop i) ++ Q
theorem swp_two {U V W : List Rw} {x y : Rw} {u v : Nat} (hu : U.length = u) (hv : (U ++ x :: V).length = v) : ((U ++ x :: V ++ y :: W).set u y).set v x = U ++ y :: V ++ x :: W := by
  subst hu hv
  have h1 : (U ++ x :: V ++ y :: W).set U.length y = U ++ y :: V ++ y :: W := by
    rw [List.append_assoc, List.set_append_right _ _ (Nat.le_refl _), Nat.sub_self, List.append_assoc]; rfl
  have h2 : (U ++ x :: V).length = (U ++ y :: V).length := by simp
  rw [h1, h2, List.set_append_right _ _ (Nat.le_refl _), Nat.sub_self]
  rfl
theorem c_swapR (P X M Y Q : List Rw) (n : Nat) (hX : X.length = n) (hY : Y.length = n) (hl : (P ++ X ++ M ++ Y ++ Q).length ≤ 100000000) : Meets Go.Proofs.Try.prog 133 [.sl 0 0 (P ++ X ++ M ++ Y ++ Q).length, I P.length, I (P ++ X ++ M).length, I n, .fn 64 []] [rwR (P ++ X ++ M ++ Y ++ Q)] (.tup []) [rwR (P ++ Y ++ M ++ X ++ Q)] true := by
  have hlen : (P ++ X ++ M ++ Y ++ Q).length = P.length + n + M.length + n + Q.length := by simp [hX, hY]; omega
  have hb0 : (P ++ X ++ M).length = P.length + n + M.length := by simp [hX]; omega
  refine meets_of [] Go.Proofs.Try.func133 rfl rfl ?_
  simp only [Go.Proofs.Try.ntmps133, List.length_cons, List.length_nil, Nat.reduceAdd, Nat.reduceSub, List.replicate_succ, List.replicate_zero, List.cons_append, List.nil_append]
  repeat' first
    | refine aw_seq ?_
    | refine aw_region ?_
    | refine aw_lex [] ?_
    | (refine isA ?_; refine do_F rfl ?_)
    | (refine isL ?_; refine lex_F rfl (by kernel_rfl) rfl rfl ?_)
    | (refine isLg rfl ?_; refine lex_S rfl (by kernel_rfl) rfl rfl ?_)
    | refine aops_nil ?_
    | refine lex_done _ rfl (by kernel_rfl) ?_
    | refine aw_ct rfl ?_
    | refine aw_cf rfl ?_
    | refine aw_block ?_
    | refine then_n ?_
    | refine aw_skip ?_
    | refine aw_exit ?_
    | refine then_x ?_
    | refine then_r ?_
    | refine block_x ?_
    | refine block_n ?_
    | refine block_r ?_
    | refine aw_ret ?_
  refine aw_loop (α := { i : Nat // i ≤ n }) (fun i => ⟨[.sl 0 0 (P ++ X ++ M ++ Y ++ Q).length, I P.length, I (P ++ X ++ M).length, I n, .any, .any, .any, .any, .any, .any, I i.1, .any, .any, .any, .any, .any, .any, .any, .any, .any, .any, .any, .any, .any, .any, .any, .any, .any, .any, .any, .any, .any, .any, .any, .any, .any, .any, .any], [rwR (swpL P X M Y Q i.1)], 1⟩) (fun i => n - i.1) ⟨0, Nat.zero_le _⟩ ?_ ?_
  · exact subm 1 [0] rfl rfl fix1 (by decide) (.cons rfl rfl rfl rfl (les_eq (show rwT.flat (P ++ X ++ M ++ Y ++ Q) = rwT.flat (swpL P X M Y Q 0) by simp [swpL]) (flat_noH _ _)) .nil) (by repeat' first | exact les_nil | refine les_cons ?_ ?_ | exact le_any | exact le_refl rfl | exact le_sl rfl rfl | exact le_ptr rfl)
  · rintro ⟨i, hi⟩
    repeat' first
      | refine aw_seq ?_
      | refine aw_region ?_
      | refine aw_lex [] ?_
      | (refine isA ?_; refine do_F rfl ?_)
      | (refine isL ?_; refine lex_F rfl (by kernel_rfl) rfl rfl ?_)
      | (refine isLg rfl ?_; refine lex_S rfl (by kernel_rfl) rfl rfl ?_)
      | refine aops_nil ?_
      | refine lex_done _ rfl (by kernel_rfl) ?_
      | refine aw_ct rfl ?_
      | refine aw_cf rfl ?_
      | refine aw_block ?_
      | refine then_n ?_
      | refine aw_skip ?_
      | refine aw_exit ?_
      | refine then_x ?_
      | refine then_r ?_
      | refine block_x ?_
      | refine block_n ?_
      | refine block_r ?_
      | refine aw_ret ?_
    refine aw_cond rfl (fun h => ?_) (fun h => ?_)
    · have hlt : i < n := by have := of_decide_eq_true h; simp only at this; omega
      obtain ⟨x, hx⟩ : ∃ z, X[i]? = some z := ⟨_, List.getElem?_eq_getElem (by omega)⟩
      obtain ⟨y, hy⟩ : ∃ z, Y[i]? = some z := ⟨_, List.getElem?_eq_getElem (by omega)⟩
      have hL : swpL P X M Y Q i = (P ++ Y.take i) ++ x :: (X.drop (i + 1) ++ M ++ X.take i) ++ y :: (Y.drop (i + 1) ++ Q) := by
        rw [swpL, take_drop1 hx, take_drop1 hy]; simp
      have hL2 : swpL P X M Y Q (i + 1) = (P ++ Y.take i) ++ y :: (X.drop (i + 1) ++ M ++ X.take i) ++ x :: (Y.drop (i + 1) ++ Q) := by
        rw [swpL, take_snoc hx, take_snoc hy]; simp
      have hu : (P ++ Y.take i).length = P.length + i := by simp; omega
      have hv : ((P ++ Y.take i) ++ x :: (X.drop (i + 1) ++ M ++ X.take i)).length = (P ++ X ++ M).length + i := by simp; omega
      have ea : IntKind.i64.wrap ((P.length : Int) + (i : Int)) = ((P.length + i : Nat) : Int) := by rw [IntKind.wrap_i64]; omega
      have eb : IntKind.i64.wrap (((P ++ X ++ M).length : Int) + (i : Int)) = (((P ++ X ++ M).length + i : Nat) : Int) := by rw [IntKind.wrap_i64]; omega
      have g0 : (swpL P X M Y Q i)[0 + (P.length + i)]? = some x := by
        rw [hL, List.append_assoc, List.getElem?_append_right (by omega), hu, show 0 + (P.length + i) - (P.length + i) = 0 by omega]; rfl
      have g1 : (swpL P X M Y Q i)[0 + ((P ++ X ++ M).length + i)]? = some y := by
        rw [hL, List.getElem?_append_right (by omega), hv, show 0 + ((P ++ X ++ M).length + i) - ((P ++ X ++ M).length + i) = 0 by omega]; rfl
      have g1' : ((swpL P X M Y Q i).set (0 + (P.length + i)) y).length = (swpL P X M Y Q i).length := List.length_set
      repeat' first
        | refine aw_seq ?_
        | refine aw_region ?_
        | (refine isA ?_; refine do_F rfl ?_)
        | (refine isL ?_; refine lex_F rfl (by kernel_rfl) rfl rfl ?_)
        | (refine isLg rfl ?_; refine lex_S rfl (by kernel_rfl) rfl rfl ?_)
        | refine aops_nil ?_
        | refine lex_done _ rfl (by kernel_rfl) ?_
        | refine aw_ct rfl ?_
        | refine aw_cf rfl ?_
        | refine aw_block ?_
        | refine then_n ?_
        | refine aw_skip ?_
        | refine aw_exit ?_
        | refine then_x ?_
        | refine then_r ?_
        | refine block_x ?_
        | refine block_n ?_
        | refine block_r ?_
        | refine aw_ret ?_
      refine aw_per [21, 23] 24 rfl ?_
      refine per_P 0 rfl (by kernel_rfl) rfl (fun _ => rfl) rfl ?_
      refine per_P 1 rfl (by kernel_rfl) rfl (fun _ => rfl) rfl ?_
      refine per_P 2 rfl (by kernel_rfl) rfl (fun _ => rfl) rfl ?_
      refine per_P 3 rfl (by kernel_rfl) rfl (fun _ => rfl) rfl ?_
      refine per_P 4 rfl (by kernel_rfl) rfl (fun _ => rfl) rfl ?_
      refine per_P 5 rfl (by kernel_rfl) rfl (fun _ => rfl) rfl ?_
      refine per_P 6 rfl (by kernel_rfl) rfl (fun _ => rfl) rfl ?_
      refine per_P 7 rfl (by kernel_rfl) rfl (fun _ => rfl) rfl ?_
      refine per_P 8 rfl (by kernel_rfl) rfl (fun _ => rfl) rfl ?_
      refine per_P 9 rfl (by kernel_rfl) rfl (fun _ => rfl) rfl ?_
      refine per_P 10 rfl (by kernel_rfl) rfl (fun _ => rfl) rfl ?_
      refine per_P 11 rfl (by kernel_rfl) rfl (fun _ => rfl) rfl ?_
      refine per_R 12 rfl (by kernel_rfl) rfl (step_ia_sl (j := (((P ++ X ++ M).length + i : Nat) : Int)) rfl rfl rfl (Nat.zero_le _) rfl (congrArg I eb) (Int.natCast_nonneg _) (by omega)) rfl ?_
      refine per_R 13 rfl (by kernel_rfl) rfl (ld_a (T := rwT) (i := 0 + ((P ++ X ++ M).length + i)) (z := y) rfl rfl rfl g1) rfl ?_
      refine per_P 14 rfl (by kernel_rfl) rfl (fun _ => rfl) rfl ?_
      refine per_P 15 rfl (by kernel_rfl) rfl (fun _ => rfl) rfl ?_
      refine per_P 16 rfl (by kernel_rfl) rfl (fun _ => rfl) rfl ?_
      refine per_P 17 rfl (by kernel_rfl) rfl (fun _ => rfl) rfl ?_
      refine per_R 18 rfl (by kernel_rfl) rfl (step_ia_sl (j := ((P.length + i : Nat) : Int)) rfl rfl rfl (Nat.zero_le _) rfl (congrArg I ea) (Int.natCast_nonneg _) (by omega)) rfl ?_
      refine per_R 19 rfl (by kernel_rfl) rfl (ld_a (T := rwT) (i := 0 + (P.length + i)) (z := x) rfl rfl rfl g0) rfl ?_
      refine per_R 20 rfl (by kernel_rfl) rfl (step_ia_sl (j := ((P.length + i : Nat) : Int)) rfl rfl rfl (Nat.zero_le _) rfl (congrArg I ea) (Int.natCast_nonneg _) (by omega)) rfl ?_
      refine per_W 21 rfl (by kernel_rfl) rfl rfl (set_l (T := rwT) (i := 0 + (P.length + i)) (z := y) rfl rfl rfl rfl rfl (List.getElem?_eq_some_iff.1 g0).1) rfl ?_
      refine per_R 22 rfl (by kernel_rfl) rfl (step_ia_sl (j := (((P ++ X ++ M).length + i : Nat) : Int)) rfl rfl rfl (Nat.zero_le _) rfl (congrArg I eb) (Int.natCast_nonneg _) (by omega)) rfl ?_
      refine per_W 23 rfl (by kernel_rfl) rfl rfl (set_l (T := rwT) (i := 0 + ((P ++ X ++ M).length + i)) (z := x) rfl rfl rfl rfl rfl (by rw [List.length_set]; exact (List.getElem?_eq_some_iff.1 g1).1)) rfl ?_
      refine per_done (by kernel_rfl) ?_
      repeat' first
        | refine aw_seq ?_
        | refine aw_region ?_
        | refine aw_lex [] ?_
        | (refine isA ?_; refine do_F rfl ?_)
        | (refine isL ?_; refine lex_F rfl (by kernel_rfl) rfl rfl ?_)
        | (refine isLg rfl ?_; refine lex_S rfl (by kernel_rfl) rfl rfl ?_)
        | refine aops_nil ?_
        | refine lex_done _ rfl (by kernel_rfl) ?_
        | refine aw_ct rfl ?_
        | refine aw_cf rfl ?_
        | refine aw_block ?_
        | refine then_n ?_
        | refine aw_skip ?_
        | refine aw_exit ?_
        | refine then_x ?_
        | refine then_r ?_
        | refine block_x ?_
        | refine block_n ?_
        | refine block_r ?_
        | refine aw_ret ?_
      refine ⟨⟨i + 1, hlt⟩, by simp only; omega, ?_⟩
      exact subm 1 [0] rfl rfl fix1 (by decide) (.cons rfl rfl rfl rfl (les_eq (show rwT.flat (((swpL P X M Y Q i).set (0 + (P.length + i)) y).set (0 + ((P ++ X ++ M).length + i)) x) = rwT.flat (swpL P X M Y Q (i + 1)) by rw [hL, Nat.zero_add, Nat.zero_add, swp_two hu hv, hL2]) (flat_noH _ _)) .nil) (by
        repeat' first
          | exact les_nil
          | refine les_cons ?_ ?_
          | exact le_any
          | exact le_refl rfl
          | exact le_sl rfl rfl
          | exact le_i hlt (by omega))
    · have hge : i = n := by have := of_decide_eq_false h; simp only at this; omega
      subst hge
      have e : swpL P X M Y Q i = P ++ Y ++ M ++ X ++ Q := by
        rw [swpL, List.take_of_length_le (by omega), List.take_of_length_le (by omega), List.drop_of_length_le (by omega), List.drop_of_length_le (by omega)]; simp
      repeat' first
        | refine aw_seq ?_
        | refine aw_region ?_
        | refine aw_lex [] ?_
        | (refine isA ?_; refine do_F rfl ?_)
        | (refine isL ?_; refine lex_F rfl (by kernel_rfl) rfl rfl ?_)
        | (refine isLg rfl ?_; refine lex_S rfl (by kernel_rfl) rfl rfl ?_)
        | exact finMv 1 [0] fix1 (by decide) (.cons rfl rfl rfl rfl (les_eq (show rwT.flat (swpL P X M Y Q i) = rwT.flat (P ++ Y ++ M ++ X ++ Q) by rw [e]) (flat_noH _ _)) .nil)
        | refine aops_nil ?_
        | refine lex_done _ rfl (by kernel_rfl) ?_
        | refine aw_ct rfl ?_
        | refine aw_cf rfl ?_
        | refine aw_block ?_
        | refine then_n ?_
        | refine aw_skip ?_
        | refine aw_exit ?_
        | refine then_x ?_
        | refine then_r ?_
        | refine block_x ?_
        | refine block_n ?_
        | refine block_r ?_
        | refine aw_ret ?_
end Go.Proofs.Ytojcojanokhnaaa.Ab

/- StE -/
namespace Go.Proofs.Ytojcojanokhnaaa.Ab
open Go.RowKit

theorem c_swapX {ds : List Rw} {L : Nat} {a b n : Int} (P X M Y Q : List Rw) (hd : ds = P ++ X ++ M ++ Y ++ Q) (hL : L = ds.length) (hl : L ≤ 100000000) (ha : a = (P.length : Int)) (hb : b = ((P ++ X ++ M).length : Int)) (hn : n = (X.length : Int)) (hY : Y.length = X.length) :
    Meets Go.Proofs.Try.prog 133 [.sl 0 0 L, I a, I b, I n, .fn 64 []] [rwR ds] (.tup []) [rwR (P ++ Y ++ M ++ X ++ Q)] true := by
  subst hd hL ha hb hn
  exact c_swapR P X M Y Q X.length rfl hY hl

structure RotI (m : Nat) (T : List Rw) (p : List Rw × List Rw × List Rw × List Rw) : Prop where
  m : p.1.length + p.2.1.length = m
  t : p.1 ++ p.2.2.1 ++ p.2.1 ++ p.2.2.2 = T
  x : 0 < p.2.1.length
  y : 0 < p.2.2.1.length
theorem RotI.len {m : Nat} {T : List Rw} {p : List Rw × List Rw × List Rw × List Rw} (h : RotI m T p) : (p.1 ++ p.2.1 ++ p.2.2.1 ++ p.2.2.2).length = T.length := by
  rw [← h.t]; simp; omega

theorem c_rotate (P X Y Q : List Rw) (hx : 0 < X.length) (hy : 0 < Y.length) (hl : (P ++ X ++ Y ++ Q).length ≤ 100000000) : Meets Go.Proofs.Try.prog 132 [.sl 0 0 (P ++ X ++ Y ++ Q).length, I P.length, I (P ++ X).length, I (P ++ X ++ Y).length, .fn 64 []] [rwR (P ++ X ++ Y ++ Q)] (.tup []) [rwR (P ++ Y ++ X ++ Q)] true := by
  obtain ⟨T, hT⟩ : ∃ T, T = P ++ Y ++ X ++ Q := ⟨_, rfl⟩
  have hTl : (P ++ X ++ Y ++ Q).length = T.length := by rw [hT]; simp; omega
  have l1 : (P ++ X).length = P.length + X.length := by simp
  have l2 : (P ++ X ++ Y).length = P.length + X.length + Y.length := by simp; omega
  have l3 : (P ++ X ++ Y ++ Q).length = P.length + X.length + Y.length + Q.length := by simp; omega
  have I0 : RotI (P ++ X).length T (P, X, Y, Q) := ⟨l1.symm, hT.symm, hx, hy⟩
  rw [← hT]
  generalize hm : (P ++ X).length = m at I0 l1 ⊢
  generalize hL : (P ++ X ++ Y ++ Q).length = L at hl hTl l3 ⊢
  refine meets_of [] Go.Proofs.Try.func132 rfl rfl ?_
  simp only [Go.Proofs.Try.ntmps132, List.length_cons, List.length_nil, Nat.reduceAdd, Nat.reduceSub, List.replicate_succ, List.replicate_zero, List.cons_append, List.nil_append]
  repeat' first
    | refine aw_seq ?_
    | refine aw_region ?_
    | refine aw_lex [] ?_
    | (refine isA ?_; refine do_F rfl ?_)
    | (refine isL ?_; refine lex_F rfl (by kernel_rfl) rfl rfl ?_)
    | (refine isLg rfl ?_; refine lex_S rfl (by kernel_rfl) rfl rfl ?_)
    | refine aops_nil ?_
    | refine lex_done _ rfl (by kernel_rfl) ?_
    | refine aw_ct rfl ?_
    | refine aw_cf rfl ?_
    | refine aw_block ?_
    | refine then_n ?_
    | refine aw_skip ?_
    | refine aw_exit ?_
    | refine then_x ?_
    | refine then_r ?_
    | refine block_x ?_
    | refine block_n ?_
    | refine block_r ?_
    | refine aw_ret ?_
  refine aw_loop (α := { p : List Rw × List Rw × List Rw × List Rw // RotI m T p }) (fun p => ⟨[.sl 0 0 L, .any, I m, .any, .fn 64 [], .any, .any, .any, .any, .any, I p.1.2.1.length, I p.1.2.2.1.length, .any, .any, .any, .any, .any, .any, .any, .any, .any, .any, .any, .any, .any, .any, .any, .any, .any, .any, .any, .any, .any, .any, .any, .any, .any, .any, .any, .any, .any, .any, .any, .any, .any, .any, .any, .any, .any, .any, .any, .any, .any, .any, .any, .any, .any, .any], [rwR (p.1.1 ++ p.1.2.1 ++ p.1.2.2.1 ++ p.1.2.2.2)], 1⟩) (fun p => p.1.2.1.length + p.1.2.2.1.length) ⟨(P, X, Y, Q), I0⟩ ?_ ?_
  · exact subm 1 [0] rfl rfl fix1 (by decide) (.cons rfl rfl rfl rfl (les_refl (flat_noH _ _)) .nil) (by
      repeat' first
        | exact les_nil
        | refine les_cons ?_ ?_
        | exact le_any
        | exact le_refl rfl
        | exact le_sl rfl rfl
        | exact le_k (congrArg _ (show (X.length : Int) = IntKind.i64.wrap ((m : Int) - (P.length : Int)) by rw [IntKind.wrap_i64]; omega))
        | exact le_k (congrArg _ (show (Y.length : Int) = IntKind.i64.wrap (((P ++ X ++ Y).length : Int) - (m : Int)) by rw [IntKind.wrap_i64]; omega)))
  · rintro ⟨⟨A, C, D, E⟩, J⟩
    have j1 : A.length + C.length = m := J.m
    have j2 : A ++ D ++ C ++ E = T := J.t
    have j3 : 0 < C.length := J.x
    have j4 : 0 < D.length := J.y
    have j5 : (A ++ C ++ D ++ E).length = T.length := J.len
    have j6 : A.length + C.length + D.length + E.length = T.length := by rw [← j5]; simp; omega
    have e1 : IntKind.i64.wrap ((m : Int) - (C.length : Int)) = (A.length : Int) := by rw [IntKind.wrap_i64]; omega
    repeat' first
      | refine aw_seq ?_
      | refine aw_region ?_
      | refine aw_lex [] ?_
      | (refine isA ?_; refine do_F rfl ?_)
      | (refine isL ?_; refine lex_F rfl (by kernel_rfl) rfl rfl ?_)
      | (refine isLg rfl ?_; refine lex_S rfl (by kernel_rfl) rfl rfl ?_)
      | refine aops_nil ?_
      | refine lex_done _ rfl (by kernel_rfl) ?_
      | refine aw_ct rfl ?_
      | refine aw_cf rfl ?_
      | refine aw_block ?_
      | refine then_n ?_
      | refine aw_skip ?_
      | refine aw_exit ?_
      | refine then_x ?_
      | refine then_r ?_
      | refine block_x ?_
      | refine block_n ?_
      | refine block_r ?_
      | refine aw_ret ?_
    refine aw_cond rfl (fun h => ?_) (fun h => ?_)
    · have hne : C.length ≠ D.length := by intro e; simp [e] at h
      repeat' first
        | refine aw_seq ?_
        | refine aw_region ?_
        | refine aw_lex [] ?_
        | (refine isA ?_; refine do_F rfl ?_)
        | (refine isL ?_; refine lex_F rfl (by kernel_rfl) rfl rfl ?_)
        | (refine isLg rfl ?_; refine lex_S rfl (by kernel_rfl) rfl rfl ?_)
        | refine aops_nil ?_
        | refine lex_done _ rfl (by kernel_rfl) ?_
        | refine aw_ct rfl ?_
        | refine aw_cf rfl ?_
        | refine aw_block ?_
        | refine then_n ?_
        | refine aw_skip ?_
        | refine aw_exit ?_
        | refine then_x ?_
        | refine then_r ?_
        | refine block_x ?_
        | refine block_n ?_
        | refine block_r ?_
        | refine aw_ret ?_
      refine aw_cond rfl (fun q => ?_) (fun q => ?_)
      · have hgt : D.length < C.length := by have := of_decide_eq_true q; simp only at this; omega
        have t1 : (C.take D.length).length = D.length := by simp; omega
        have t2 : C.take D.length ++ C.drop D.length = C := List.take_append_drop _ _
        have sw := c_swapX (ds := A ++ C ++ D ++ E) (L := L) (a := IntKind.i64.wrap ((m : Int) - (C.length : Int))) (b := (m : Int)) (n := (D.length : Int)) A (C.take D.length) (C.drop D.length) D E (by have q : A ++ (C.take D.length ++ C.drop D.length) ++ D ++ E = A ++ C.take D.length ++ C.drop D.length ++ D ++ E := (by simp only [List.append_assoc]); rw [t2] at q; exact q) (by omega) (by omega) e1 (by rw [List.append_assoc A, t2, List.length_append]; omega) (by omega) (by omega)
        repeat' first
          | refine aw_seq ?_
          | refine aw_region ?_
          | refine aw_lex [] ?_
          | (refine isA ?_; refine do_F rfl ?_)
          | (refine isL ?_; refine lex_F rfl (by kernel_rfl) rfl rfl ?_)
          | (refine isLg rfl ?_; refine lex_S rfl (by kernel_rfl) rfl rfl ?_)
          | (refine isAc 133 ?_; refine do_R rfl (step_callMs (K := []) (Rs' := [_]) [0] (by decide) rfl sw (.cons rfl rfl rfl (flat_noH _ _) (flat_noH _ _) .nil) (.cons (.sl rfl) (.cons (.same rfl) (.cons (.same rfl) (.cons (.same rfl) (.cons (.same rfl) .nil))))) (fun q hq => by cases hq) rfl) rfl ?_)
          | (refine isLc 133 rfl ?_; refine lex_R rfl (by kernel_rfl) rfl (step_callMs (K := []) (Rs' := [_]) [0] (by decide) rfl sw (.cons rfl rfl rfl (flat_noH _ _) (flat_noH _ _) .nil) (.cons (.sl rfl) (.cons (.same rfl) (.cons (.same rfl) (.cons (.same rfl) (.cons (.same rfl) .nil))))) (fun q hq => by cases hq) rfl) rfl ?_)
          | refine aops_nil ?_
          | refine lex_done _ rfl (by kernel_rfl) ?_
          | refine aw_ct rfl ?_
          | refine aw_cf rfl ?_
          | refine aw_block ?_
          | refine then_n ?_
          | refine aw_skip ?_
          | refine aw_exit ?_
          | refine then_x ?_
          | refine then_r ?_
          | refine block_x ?_
          | refine block_n ?_
          | refine block_r ?_
          | refine aw_ret ?_
        refine ⟨⟨(A ++ D, C.drop D.length, C.take D.length, E), ⟨by simp; omega, by rw [← j2]; simp only [List.append_assoc]; rw [← List.append_assoc (C.take D.length), t2], by simp; omega, by simp; omega⟩⟩, by simp only [List.length_drop, t1]; omega, ?_⟩
        exact subm 1 [0] rfl rfl fix1 (by decide) (.cons rfl rfl rfl rfl (les_refl (flat_noH _ _)) .nil) (by
          repeat' first
            | exact les_nil
            | refine les_cons ?_ ?_
            | exact le_any
            | exact le_refl rfl
            | exact le_sl rfl rfl
            | exact le_k (congrArg _ (show ((C.take D.length).length : Int) = (D.length : Int) by omega))
            | exact le_k (congrArg _ (show ((C.drop D.length).length : Int) = IntKind.i64.wrap ((C.length : Int) - (D.length : Int)) by rw [IntKind.wrap_i64, List.length_drop]; omega)))
      · have hlt : C.length < D.length := by have := of_decide_eq_false q; simp only at this; omega
        have t1 : (D.drop (D.length - C.length)).length = C.length := by simp; omega
        have t2 : D.take (D.length - C.length) ++ D.drop (D.length - C.length) = D := List.take_append_drop _ _
        have t3 : (D.take (D.length - C.length)).length = D.length - C.length := by simp
        have sw := c_swapX (ds := A ++ C ++ D ++ E) (L := L) (a := IntKind.i64.wrap ((m : Int) - (C.length : Int))) (b := IntKind.i64.wrap (IntKind.i64.wrap ((m : Int) + (D.length : Int)) - (C.length : Int))) (n := (C.length : Int)) A C (D.take (D.length - C.length)) (D.drop (D.length - C.length)) E (by have q : A ++ C ++ (D.take (D.length - C.length) ++ D.drop (D.length - C.length)) ++ E = A ++ C ++ D.take (D.length - C.length) ++ D.drop (D.length - C.length) ++ E := (by simp only [List.append_assoc]); rw [t2] at q; exact q) (by omega) (by omega) e1 (by
          rw [show IntKind.i64.wrap ((m : Int) + (D.length : Int)) = (m : Int) + D.length by rw [IntKind.wrap_i64]; omega, IntKind.wrap_i64, List.length_append, List.length_append, t3]; omega) rfl t1
        repeat' first
          | refine aw_seq ?_
          | refine aw_region ?_
          | refine aw_lex [] ?_
          | (refine isA ?_; refine do_F rfl ?_)
          | (refine isL ?_; refine lex_F rfl (by kernel_rfl) rfl rfl ?_)
          | (refine isLg rfl ?_; refine lex_S rfl (by kernel_rfl) rfl rfl ?_)
          | (refine isAc 133 ?_; refine do_R rfl (step_callMs (K := []) (Rs' := [_]) [0] (by decide) rfl sw (.cons rfl rfl rfl (flat_noH _ _) (flat_noH _ _) .nil) (.cons (.sl rfl) (.cons (.same rfl) (.cons (.same rfl) (.cons (.same rfl) (.cons (.same rfl) .nil))))) (fun q hq => by cases hq) rfl) rfl ?_)
          | (refine isLc 133 rfl ?_; refine lex_R rfl (by kernel_rfl) rfl (step_callMs (K := []) (Rs' := [_]) [0] (by decide) rfl sw (.cons rfl rfl rfl (flat_noH _ _) (flat_noH _ _) .nil) (.cons (.sl rfl) (.cons (.same rfl) (.cons (.same rfl) (.cons (.same rfl) (.cons (.same rfl) .nil))))) (fun q hq => by cases hq) rfl) rfl ?_)
          | refine aops_nil ?_
          | refine lex_done _ rfl (by kernel_rfl) ?_
          | refine aw_ct rfl ?_
          | refine aw_cf rfl ?_
          | refine aw_block ?_
          | refine then_n ?_
          | refine aw_skip ?_
          | refine aw_exit ?_
          | refine then_x ?_
          | refine then_r ?_
          | refine block_x ?_
          | refine block_n ?_
          | refine block_r ?_
          | refine aw_ret ?_
        refine ⟨⟨(A, D.drop (D.length - C.length), D.take (D.length - C.length), C ++ E), ⟨by simp only; omega, by rw [← j2]; simp only [List.append_assoc]; rw [← List.append_assoc (D.take (D.length - C.length)), t2], by simp only; omega, by simp only; omega⟩⟩, by simp only [t1, t3]; omega, ?_⟩
        exact subm 1 [0] rfl rfl fix1 (by decide) (.cons rfl rfl rfl rfl (les_eq (congrArg rwT.flat (by simp)) (flat_noH _ _)) .nil) (by
          repeat' first
            | exact les_nil
            | refine les_cons ?_ ?_
            | exact le_any
            | exact le_refl rfl
            | exact le_sl rfl rfl
            | exact le_k (congrArg _ (show ((D.drop (D.length - C.length)).length : Int) = (C.length : Int) by omega))
            | exact le_k (congrArg _ (show ((D.take (D.length - C.length)).length : Int) = IntKind.i64.wrap ((D.length : Int) - (C.length : Int)) by rw [IntKind.wrap_i64, t3]; omega)))
    · have heq : C.length = D.length := by have : (C.length : Int) = D.length := (by simpa using h); omega
      have sw := c_swapX (ds := A ++ C ++ D ++ E) (L := L) (a := IntKind.i64.wrap ((m : Int) - (C.length : Int))) (b := (m : Int)) (n := (C.length : Int)) A C [] D E (by simp) (by omega) (by omega) e1 (by simp; omega) rfl heq.symm
      repeat' first
        | refine aw_seq ?_
        | refine aw_region ?_
        | refine aw_lex [] ?_
        | (refine isA ?_; refine do_F rfl ?_)
        | (refine isL ?_; refine lex_F rfl (by kernel_rfl) rfl rfl ?_)
        | (refine isLg rfl ?_; refine lex_S rfl (by kernel_rfl) rfl rfl ?_)
        | (refine isAc 133 ?_; refine do_R rfl (step_callMs (K := []) (Rs' := [_]) [0] (by decide) rfl sw (.cons rfl rfl rfl (flat_noH _ _) (flat_noH _ _) .nil) (.cons (.sl rfl) (.cons (.same rfl) (.cons (.same rfl) (.cons (.same rfl) (.cons (.same rfl) .nil))))) (fun q hq => by cases hq) rfl) rfl ?_)
        | (refine isLc 133 rfl ?_; refine lex_R rfl (by kernel_rfl) rfl (step_callMs (K := []) (Rs' := [_]) [0] (by decide) rfl sw (.cons rfl rfl rfl (flat_noH _ _) (flat_noH _ _) .nil) (.cons (.sl rfl) (.cons (.same rfl) (.cons (.same rfl) (.cons (.same rfl) (.cons (.same rfl) .nil))))) (fun q hq => by cases hq) rfl) rfl ?_)
        | exact finMv 1 [0] fix1 (by decide) (.cons rfl rfl rfl rfl (les_eq (congrArg rwT.flat (by rw [← j2]; simp)) (flat_noH _ _)) .nil)
        | refine aops_nil ?_
        | refine lex_done _ rfl (by kernel_rfl) ?_
        | refine aw_ct rfl ?_
        | refine aw_cf rfl ?_
        | refine aw_block ?_
        | refine then_n ?_
        | refine aw_skip ?_
        | refine aw_exit ?_
        | refine then_x ?_
        | refine then_r ?_
        | refine block_x ?_
        | refine block_n ?_
        | refine block_r ?_
        | refine aw_ret ?_
end Go.Proofs.Ytojcojanokhnaaa.Ab

/- StF -/
namespace Go.Proofs.Ytojcojanokhnaaa.Ab
open Go.RowKit

theorem srt_split {xs : List Rw} (h : Srt xs) (u : Nat) : ∀ x ∈ xs.take u, ∀ y ∈ xs.drop u, leW x y := by
  have h' : Srt (xs.take u ++ xs.drop u) := by rw [List.take_append_drop]; exact h
  exact (List.pairwise_append.1 h').2.2
/-- What lies left of a cut in A stands not behind what lies right of a cut in B. -/
theorem cut_le {A B : List Rw} {u v : Nat} (hA : Srt A) (hB : Srt B) (hu : u ≤ A.length) (h : ∀ x y, 0 < u → A[u - 1]? = some x → B[v]? = some y → leW x y) : ∀ x ∈ A.take u, ∀ y ∈ B.drop v, leW x y := fun x hx y hy => by
  obtain ⟨i, hi⟩ := List.getElem?_of_mem hx
  obtain ⟨j, hj⟩ := List.getElem?_of_mem hy
  have hlt : i < u := by
    have := (List.getElem?_eq_some_iff.1 hi).1
    simp at this
    omega
  rw [List.getElem?_take_of_lt hlt] at hi
  rw [List.getElem?_drop] at hj
  have hvl := (List.getElem?_eq_some_iff.1 hj).1
  obtain ⟨x', hx'⟩ : ∃ z, A[u - 1]? = some z := ⟨_, List.getElem?_eq_getElem (by omega)⟩
  obtain ⟨y', hy'⟩ : ∃ z, B[v]? = some z := ⟨_, List.getElem?_eq_getElem (by omega)⟩
  exact leW_trans (srt_le hA (show i ≤ u - 1 by omega) hi hx') (leW_trans (h x' y' (by omega) hx' hy') (srt_le hB (Nat.le_add_right v j) hy' hj))
theorem sym_cut {A B : List Rw} {u v : Nat} (hA : Srt A) (hB : Srt B) (hu : u ≤ A.length) (hv : v ≤ B.length) (h1 : ∀ x y, 0 < u → A[u - 1]? = some x → B[v]? = some y → leW x y) (h2 : ∀ y x, 0 < v → B[v - 1]? = some y → A[u]? = some x → leW y x) :
    srtV (A.take u ++ B.take v) ++ srtV (A.drop u ++ B.drop v) = srtV (A ++ B) := by
  refine srtV_of ?_ ?_
  · refine List.pairwise_append.2 ⟨srtV_srt _, srtV_srt _, fun x hx y hy => ?_⟩
    have hx' := (srtV_perm _).mem_iff.1 hx
    have hy' := (srtV_perm _).mem_iff.1 hy
    rcases List.mem_append.1 hx' with hx' | hx' <;> rcases List.mem_append.1 hy' with hy' | hy'
    · exact srt_split hA u x hx' y hy'
    · exact cut_le hA hB hu h1 x hx' y hy'
    · exact cut_le hB hA hv h2 x hx' y hy'
    · exact srt_split hB v x hx' y hy'
  · refine ((srtV_perm _).append (srtV_perm _)).trans ?_
    have e : (A ++ B).Perm ((A.take u ++ A.drop u) ++ (B.take v ++ B.drop v)) := by rw [List.take_append_drop, List.take_append_drop]
    refine List.Perm.trans ?_ e.symm
    rw [List.append_assoc, List.append_assoc]
    refine List.Perm.append_left _ ?_
    rw [← List.append_assoc, ← List.append_assoc]
    exact List.Perm.append_right _ List.perm_append_comm
end Go.Proofs.Ytojcojanokhnaaa.Ab

/- StB2 -/
namespace Go.Proofs.Ytojcojanokhnaaa.Ab
open Go.RowKit

/-- Blocks of s rows, each in order; the last may be shorter. -/
inductive Blk (s : Nat) : List Rw → Prop where
  | last {X : List Rw} (hl : X.length ≤ s) (h : Srt X) : Blk s X
  | cons {X Y : List Rw} (hl : X.length = s) (h : Srt X) (t : Blk s Y) : Blk s (X ++ Y)
/-- Blocks of s rows, all of them whole. -/
def Full (s : Nat) (U : List Rw) : Prop := ∀ Z, Blk s Z → Blk s (U ++ Z)
theorem full_nil {s : Nat} : Full s [] := fun Z h => h
theorem full_snoc {s : Nat} {U X : List Rw} (hU : Full s U) (hl : X.length = s) (h : Srt X) : Full s (U ++ X) := fun Z hZ => by
  rw [List.append_assoc]; exact hU _ (.cons hl h hZ)
theorem full_last {s : Nat} {U X : List Rw} (hU : Full s U) (hl : X.length ≤ s) (h : Srt X) : Blk s (U ++ X) := hU _ (.last hl h)
theorem blk_srt {s : Nat} {V : List Rw} (h : Blk s V) (hl : V.length ≤ s) : Srt V := by
  cases h with
  | last _ h => exact h
  | @cons X Y hX h t =>
    have : Y = [] := List.eq_nil_of_length_eq_zero (by rw [List.length_append] at hl; omega)
    subst this
    rw [List.append_nil]
    exact h
theorem blk_cut {s : Nat} {V : List Rw} (h : Blk s V) (hl : s < V.length) : ∃ X Y, V = X ++ Y ∧ X.length = s ∧ Srt X ∧ Blk s Y := by
  cases h with
  | last q h => omega
  | @cons X Y hX h t => exact ⟨X, Y, rfl, hX, h, t⟩
theorem blk_two {s : Nat} {V : List Rw} (hs : 0 < s) (h : Blk s V) (hl : 2 * s ≤ V.length) : ∃ X Y Z, V = X ++ Y ++ Z ∧ X.length = s ∧ Y.length = s ∧ Srt X ∧ Srt Y ∧ Blk s Z := by
  obtain ⟨X, W, rfl, hX, sX, hW⟩ := blk_cut h (by omega)
  rw [List.length_append] at hl
  rcases Nat.lt_or_ge s W.length with hlt | hge
  · obtain ⟨Y, Z, rfl, hY, sY, hZ⟩ := blk_cut hW hlt
    exact ⟨X, Y, Z, by rw [List.append_assoc], hX, hY, sX, sY, hZ⟩
  · exact ⟨X, W, [], by simp, hX, by omega, sX, blk_srt hW hge, .last (Nat.zero_le _) List.Pairwise.nil⟩
theorem blk_rest {s : Nat} {V : List Rw} (h : Blk s V) (hl : s < V.length) (h2 : V.length < 2 * s) : ∃ X Y, V = X ++ Y ∧ X.length = s ∧ Srt X ∧ Srt Y ∧ 0 < Y.length := by
  obtain ⟨X, Y, rfl, hX, sX, hY⟩ := blk_cut h hl
  rw [List.length_append] at hl h2
  exact ⟨X, Y, rfl, hX, sX, blk_srt hY (by omega), by omega⟩
theorem srtV_id {xs : List Rw} (h : Srt xs) : srtV xs = xs := (srtV_of h (.refl _)).symm
end Go.Proofs.Ytojcojanokhnaaa.Ab

/- StH -/
namespace Go.Proofs.Ytojcojanokhnaaa.Ab
open Go.RowKit
theorem shr_half {v : Int} (h0 : 0 ≤ v) : bShr .u64 v 1 = v / 2 := by
  unfold bShr
  show v.fdiv 2 = v / 2
  exact Int.fdiv_eq_ediv_of_nonneg v (by omega)
theorem half_val {i j : Nat} (h : i + j ≤ 1000000000000) : IntKind.i64.wrap (bShr .u64 (IntKind.u64.wrap (IntKind.i64.wrap ((i : Int) + (j : Int)))) 1) = (((i + j) / 2 : Nat) : Int) := by
  have e1 : IntKind.i64.wrap ((i : Int) + (j : Int)) = ((i + j : Nat) : Int) := by rw [IntKind.wrap_i64]; omega
  have e2 : IntKind.u64.wrap (((i + j : Nat) : Int)) = ((i + j : Nat) : Int) := by
    unfold IntKind.wrap
    simp [IntKind.bits, IntKind.signed]
    omega
  rw [e1, e2, shr_half (by omega), IntKind.wrap_i64]
  omega
end Go.Proofs.Ytojcojanokhnaaa.Ab

/- StG -/
namespace Go.Proofs.Ytojcojanokhnaaa.Ab
open Go.RowKit

/-- x before a list in order: where it goes. -/
theorem srt_front {x : Rw} {B : List Rw} {u : Nat} (hB : Srt B) (hu : u ≤ B.length) (h1 : ∀ z, 0 < u → B[u - 1]? = some z → leW z x) (h2 : ∀ z, B[u]? = some z → leW x z) : B.take u ++ x :: B.drop u = srtV ([x] ++ B) := by
  have h := sym_cut (A := [x]) (B := B) (u := 0) (v := u) (List.pairwise_singleton _ _) hB (Nat.zero_le _) hu (fun _ _ h => absurd h (Nat.lt_irrefl 0)) (fun y z h0 hy hz => by
    simp at hz
    subst hz
    exact h1 y h0 hy)
  refine srtV_of ?_ ?_
  · have hs : Srt (B.take u ++ B.drop u) := by rw [List.take_append_drop]; exact hB
    obtain ⟨q1, q2, q3⟩ := List.pairwise_append.1 hs
    have hlo := cut_le (A := B) (B := [x]) (u := u) (v := 0) hB (List.pairwise_singleton _ _) hu (fun z y h0 hz hy => by simp at hy; subst hy; exact h1 z h0 hz)
    have hhi := cut_le (A := [x]) (B := B) (u := 1) (v := u) (List.pairwise_singleton _ _) hB (by simp) (fun z y _ hz hy => by simp at hz; subst hz; exact h2 y hy)
    refine List.pairwise_append.2 ⟨q1, List.pairwise_cons.2 ⟨fun y hy => hhi x (by simp) y hy, q2⟩, fun a ha c hc => ?_⟩
    rcases List.mem_cons.1 hc with rfl | hc
    · exact hlo a ha _ (by simp)
    · exact q3 a ha c hc
  · exact List.perm_middle.trans (by rw [List.take_append_drop]; exact .refl _)
/-- x behind a list in order: where it goes. -/
theorem srt_back {x : Rw} {A : List Rw} {u : Nat} (hA : Srt A) (hu : u ≤ A.length) (h1 : ∀ z, 0 < u → A[u - 1]? = some z → leW z x) (h2 : ∀ z, A[u]? = some z → leW x z) : A.take u ++ x :: A.drop u = srtV (A ++ [x]) := by
  rw [srt_front hA hu h1 h2]
  exact srtV_of (srtV_srt _) ((srtV_perm _).trans List.perm_append_comm)
theorem finMvr {l : List V} {H : List Reg} {K : List Reg} (k : Nat) (ψ : List Nat) (hfix : ∀ i, i < k → ψ[i]? = some i) (hnd : ψ.Nodup) (hH : HLes ψ H ψ K) : (Exit.ret = .ret ∨ Exit.ret = .normal) ∧ Out true (.tup []) K (resV ⟨l, H, k⟩ []) ⟨l, H, k⟩ :=
  ⟨Or.inl rfl, out_of (S := ⟨l, H, k⟩) ψ hfix (hle_of hnd hH) (le_tup les_nil) (Or.inl rfl)⟩
theorem swap_up {U W : List Rw} {x y : Rw} {u : Nat} (hu : U.length = u) : ((U ++ x :: y :: W).set u y).set (u + 1) x = U ++ y :: x :: W := by
  subst hu
  have h1 : (U ++ x :: y :: W).set U.length y = U ++ y :: y :: W := by rw [List.set_append_right _ _ (Nat.le_refl _), Nat.sub_self]; rfl
  rw [h1, List.set_append_right _ _ (by omega), show U.length + 1 - U.length = 1 by omega]
  rfl
/-- x, carried t places up. -/
def upL (P B Q : List Rw) (x : Rw) (t : Nat) : List Rw := P ++ B.take t ++ x :: (B.drop t ++ Q)
theorem half_lt {i j : Nat} (h : i < j) : i ≤ (i + j) / 2 ∧ (i + j) / 2 < j := by omega

theorem c_sym1 (P B Q : List Rw) (x : Rw) (hB : Srt B) (h0 : 0 < B.length) (hl : (P ++ [x] ++ B ++ Q).length ≤ 100000000) : Meets Go.Proofs.Try.prog 131 [.sl 0 0 (P ++ [x] ++ B ++ Q).length, I P.length, I (P ++ [x]).length, I (P ++ [x] ++ B).length, .fn 64 []] [rwR (P ++ [x] ++ B ++ Q)] (.tup []) [rwR (P ++ srtV ([x] ++ B) ++ Q)] true := by
  have l1 : (P ++ [x]).length = P.length + 1 := by simp
  have l2 : (P ++ [x] ++ B).length = P.length + 1 + B.length := by simp; omega
  have l3 : (P ++ [x] ++ B ++ Q).length = P.length + 1 + B.length + Q.length := by simp; omega
  generalize hm : (P ++ [x]).length = m at l1 ⊢
  generalize hb : (P ++ [x] ++ B).length = b at l2 ⊢
  generalize hL : (P ++ [x] ++ B ++ Q).length = L at hl l3 ⊢
  refine meets_of [] Go.Proofs.Try.func131 rfl rfl ?_
  simp only [Go.Proofs.Try.ntmps131, List.length_cons, List.length_nil, Nat.reduceAdd, Nat.reduceSub, List.replicate_succ, List.replicate_zero, List.cons_append, List.nil_append]
  repeat' first
    | refine aw_seq ?_
    | refine aw_region ?_
    | refine aw_lex [] ?_
    | (refine isA ?_; refine do_F rfl ?_)
    | (refine isL ?_; refine lex_F rfl (by kernel_rfl) rfl rfl ?_)
    | (refine isLg rfl ?_; refine lex_S rfl (by kernel_rfl) rfl rfl ?_)
    | refine aops_nil ?_
    | refine lex_done _ rfl (by kernel_rfl) ?_
    | refine aw_ct rfl ?_
    | refine aw_cf rfl ?_
    | refine aw_block ?_
    | refine then_n ?_
    | refine aw_skip ?_
    | refine aw_exit ?_
    | refine then_x ?_
    | refine then_r ?_
    | refine block_x ?_
    | refine block_n ?_
    | refine block_r ?_
    | refine aw_ret ?_
  refine aw_cond rfl (fun _ => ?_) (fun h => absurd (of_decide_eq_false h) (by rw [IntKind.wrap_i64]; omega))
  repeat' first
    | refine aw_seq ?_
    | refine aw_region ?_
    | refine aw_lex [] ?_
    | (refine isA ?_; refine do_F rfl ?_)
    | (refine isL ?_; refine lex_F rfl (by kernel_rfl) rfl rfl ?_)
    | (refine isLg rfl ?_; refine lex_S rfl (by kernel_rfl) rfl rfl ?_)
    | refine aops_nil ?_
    | refine lex_done _ rfl (by kernel_rfl) ?_
    | refine aw_ct rfl ?_
    | refine aw_cf rfl ?_
    | refine aw_block ?_
    | refine then_n ?_
    | refine aw_skip ?_
    | refine aw_exit ?_
    | refine then_x ?_
    | refine then_r ?_
    | refine block_x ?_
    | refine block_n ?_
    | refine block_r ?_
    | refine aw_ret ?_
  refine aw_loop (α := { p : Nat × Nat // p.1 ≤ p.2 ∧ p.2 ≤ B.length ∧ (∀ z, 0 < p.1 → B[p.1 - 1]? = some z → leW z x) ∧ (∀ z, B[p.2]? = some z → leW x z) }) (fun p => ⟨((.sl 0 0 L) :: (I P.length) :: (I m) :: (I b) :: (.fn 64 []) :: .any :: .any :: .any :: .any :: .any :: (I ((m + p.1.1 : Nat) : Int)) :: (I ((m + p.1.2 : Nat) : Int)) :: .any :: .any :: .any :: .any :: .any :: .any :: .any :: .any :: .any :: .any :: .any :: .any :: .any :: .any :: .any :: .any :: .any :: .any :: .any :: .any :: .any :: .any :: .any :: .any :: .any :: .any :: .any :: .any :: .any :: .any :: .any :: .any :: .any :: .any :: .any :: .any :: .any :: .any :: .any :: .any :: .any :: .any :: .any :: .any :: .any :: .any :: .any :: .any :: .any :: .any :: .any :: .any :: .any :: .any :: .any :: .any :: .any :: .any :: .any :: .any :: .any :: .any :: .any :: .any :: .any :: .any :: .any :: .any :: .any :: .any :: .any :: .any :: .any :: .any :: .any :: .any :: .any :: .any :: .any :: .any :: .any :: .any :: .any :: .any :: .any :: .any :: .any :: .any :: .any :: .any :: .any :: .any :: .any :: .any :: .any :: .any :: .any :: .any :: .any :: .any :: .any :: .any :: .any :: .any :: .any :: .any :: .any :: .any :: .any :: .any :: .any :: .any :: .any :: .any :: .any :: .any :: .any :: .any :: .any :: .any :: .any :: .any :: .any :: .any :: .any :: .any :: .any :: .any :: .any :: .any :: .any :: .any :: .any :: .any :: .any :: .any :: .any :: .any :: .any :: .any :: .any :: .any :: .any :: .any :: .any :: .any :: .any :: .any :: .any :: .any :: .any :: .any :: .any :: .any :: .any :: .any :: .any :: .any :: .any :: .any :: .any :: .any :: .any :: .any :: .any :: .any :: .any :: .any :: .any :: .any :: .any :: .any :: .any :: .any :: .any :: .any :: .any :: .any :: .any :: .any :: .any :: .any :: .any :: .any :: .any :: .any :: .any :: .any :: .any :: .any :: .any :: .any :: .any :: .any :: .any :: .any :: .any :: .any :: .any :: .any :: .any :: .any :: .any :: .any :: .any :: .any :: .any :: .any :: []), [rwR (P ++ [x] ++ B ++ Q)], 1⟩) (fun p => p.1.2 - p.1.1) ⟨(0, B.length), Nat.zero_le _, Nat.le_refl _, fun _ h => absurd h (Nat.lt_irrefl 0), fun z hz => absurd (List.getElem?_eq_some_iff.1 hz).1 (Nat.lt_irrefl _)⟩ ?_ ?_
  · exact subm 1 [0] rfl rfl fix1 (by decide) (.cons rfl rfl rfl rfl (les_refl (flat_noH _ _)) .nil) (by
      repeat' first
        | exact les_nil
        | refine les_cons ?_ ?_
        | exact le_any
        | exact le_refl rfl
        | exact le_sl rfl rfl
        | exact le_k (congrArg _ (show ((m + B.length : Nat) : Int) = (b : Int) by omega)))
  · rintro ⟨⟨i, j⟩, hij, hj, hlo, hhi⟩
    simp only at hij hj hlo hhi
    repeat' first
      | refine aw_seq ?_
      | refine aw_region ?_
      | refine aw_lex [] ?_
      | (refine isA ?_; refine do_F rfl ?_)
      | (refine isL ?_; refine lex_F rfl (by kernel_rfl) rfl rfl ?_)
      | (refine isLg rfl ?_; refine lex_S rfl (by kernel_rfl) rfl rfl ?_)
      | refine aops_nil ?_
      | refine lex_done _ rfl (by kernel_rfl) ?_
      | refine aw_ct rfl ?_
      | refine aw_cf rfl ?_
      | refine aw_block ?_
      | refine then_n ?_
      | refine aw_skip ?_
      | refine aw_exit ?_
      | refine then_x ?_
      | refine then_r ?_
      | refine block_x ?_
      | refine block_n ?_
      | refine block_r ?_
      | refine aw_ret ?_
    refine aw_cond rfl (fun h => ?_) (fun h => ?_)
    · have hlt : i < j := by have := of_decide_eq_true h; simp only at this; omega
      obtain ⟨k, hk⟩ : ∃ k, k = (i + j) / 2 := ⟨_, rfl⟩
      have k1 : i ≤ k ∧ k < j := by omega
      have hv : IntKind.i64.wrap (bShr .u64 (IntKind.u64.wrap (IntKind.i64.wrap (((m + i : Nat) : Int) + ((m + j : Nat) : Int)))) 1) = ((m + k : Nat) : Int) := by
        rw [half_val (by omega)]; omega
      obtain ⟨y, hy⟩ : ∃ z, B[k]? = some z := ⟨_, List.getElem?_eq_getElem (by omega)⟩
      have gy : (P ++ [x] ++ B ++ Q)[0 + (m + k)]? = some y := by
        rw [List.getElem?_append_left (by omega), List.getElem?_append_right (by omega), hm, show 0 + (m + k) - m = k by omega]; exact hy
      have gx : (P ++ [x] ++ B ++ Q)[0 + P.length]? = some x := by
        rw [Nat.zero_add, List.append_assoc, List.append_assoc, List.getElem?_append_right (Nat.le_refl _), Nat.sub_self]; rfl
      repeat' first
        | refine aw_seq ?_
        | refine aw_region ?_
        | refine aw_lex [] ?_
        | (refine isA ?_; refine do_F rfl ?_)
        | (refine isL ?_; refine lex_F rfl (by kernel_rfl) rfl rfl ?_)
        | (refine isLg rfl ?_; refine lex_S rfl (by kernel_rfl) rfl rfl ?_)
        | refine do_R rfl (step_shr (n := 1) rfl rfl rfl) rfl ?_
        | refine lex_R rfl (by kernel_rfl) rfl (step_shr (n := 1) rfl rfl rfl) rfl ?_
        | (refine isAi (x := .tmp 41) ?_; refine do_R rfl (step_ia_sl (j := ((m + k : Nat) : Int)) rfl rfl rfl (Nat.zero_le _) rfl (congrArg I hv) (Int.natCast_nonneg _) (by omega)) rfl ?_)
        | (refine isLi (x := .tmp 41) rfl ?_; refine lex_R rfl (by kernel_rfl) rfl (step_ia_sl (j := ((m + k : Nat) : Int)) rfl rfl rfl (Nat.zero_le _) rfl (congrArg I hv) (Int.natCast_nonneg _) (by omega)) rfl ?_)
        | (refine isAi (x := .tmp 45) ?_; refine do_R rfl (step_ia_sl (j := (P.length : Int)) rfl rfl rfl (Nat.zero_le _) rfl rfl (Int.natCast_nonneg _) (by omega)) rfl ?_)
        | (refine isLi (x := .tmp 45) rfl ?_; refine lex_R rfl (by kernel_rfl) rfl (step_ia_sl (j := (P.length : Int)) rfl rfl rfl (Nat.zero_le _) rfl rfl (Int.natCast_nonneg _) (by omega)) rfl ?_)
        | (refine isAl (x := .tmp 43) ?_; refine do_R rfl (ld_a (T := rwT) (i := 0 + (m + k)) (z := y) rfl rfl rfl gy) rfl ?_)
        | (refine isLl (x := .tmp 43) rfl ?_; refine lex_R rfl (by kernel_rfl) rfl (ld_a (T := rwT) (i := 0 + (m + k)) (z := y) rfl rfl rfl gy) rfl ?_)
        | (refine isAl (x := .tmp 47) ?_; refine do_R rfl (ld_a (T := rwT) (i := 0 + P.length) (z := x) rfl rfl rfl gx) rfl ?_)
        | (refine isLl (x := .tmp 47) rfl ?_; refine lex_R rfl (by kernel_rfl) rfl (ld_a (T := rwT) (i := 0 + P.length) (z := x) rfl rfl rfl gx) rfl ?_)
        | refine do_R rfl (st_callV rfl rfl (c_icmp y x) (.cons (.same rfl) (.cons (.same rfl) .nil)) rfl) rfl ?_
        | refine lex_R rfl (by kernel_rfl) rfl (st_callV rfl rfl (c_icmp y x) (.cons (.same rfl) (.cons (.same rfl) .nil)) rfl) rfl ?_
        | refine aops_nil ?_
        | refine lex_done _ rfl (by kernel_rfl) ?_
        | refine aw_ct rfl ?_
        | refine aw_cf rfl ?_
        | refine aw_block ?_
        | refine then_n ?_
        | refine aw_skip ?_
        | refine aw_exit ?_
        | refine then_x ?_
        | refine then_r ?_
        | refine block_x ?_
        | refine block_n ?_
        | refine block_r ?_
        | refine aw_ret ?_
      refine aw_cond rfl (fun p => ?_) (fun p => ?_)
      · have q := leW_not (cmp_neg.1 (of_decide_eq_true p))
        repeat' first
          | refine aw_seq ?_
          | refine aw_region ?_
          | refine aw_lex [] ?_
          | (refine isA ?_; refine do_F rfl ?_)
          | (refine isL ?_; refine lex_F rfl (by kernel_rfl) rfl rfl ?_)
          | (refine isLg rfl ?_; refine lex_S rfl (by kernel_rfl) rfl rfl ?_)
          | refine aops_nil ?_
          | refine lex_done _ rfl (by kernel_rfl) ?_
          | refine aw_ct rfl ?_
          | refine aw_cf rfl ?_
          | refine aw_block ?_
          | refine then_n ?_
          | refine aw_skip ?_
          | refine aw_exit ?_
          | refine then_x ?_
          | refine then_r ?_
          | refine block_x ?_
          | refine block_n ?_
          | refine block_r ?_
          | refine aw_ret ?_
        refine ⟨⟨(k + 1, j), by simp only; omega, hj, fun z _ hz => by simp only [Nat.add_sub_cancel] at hz; rw [hy] at hz; cases hz; exact q, hhi⟩, by simp only; omega, ?_⟩
        exact subm 1 [0] rfl rfl fix1 (by decide) (.cons rfl rfl rfl rfl (les_refl (flat_noH _ _)) .nil) (by
          repeat' first
            | exact les_nil
            | refine les_cons ?_ ?_
            | exact le_any
            | exact le_refl rfl
            | exact le_sl rfl rfl
            | exact le_k (congrArg _ (show ((m + (k + 1) : Nat) : Int) = IntKind.i64.wrap (IntKind.i64.wrap (bShr .u64 (IntKind.u64.wrap (IntKind.i64.wrap (((m + i : Nat) : Int) + ((m + j : Nat) : Int)))) 1) + 1) by rw [hv, IntKind.wrap_i64]; omega)))
      · have q : leW x y := Classical.byContradiction fun hn => absurd (cmp_neg.2 hn) (of_decide_eq_false p)
        repeat' first
          | refine aw_seq ?_
          | refine aw_region ?_
          | refine aw_lex [] ?_
          | (refine isA ?_; refine do_F rfl ?_)
          | (refine isL ?_; refine lex_F rfl (by kernel_rfl) rfl rfl ?_)
          | (refine isLg rfl ?_; refine lex_S rfl (by kernel_rfl) rfl rfl ?_)
          | refine aops_nil ?_
          | refine lex_done _ rfl (by kernel_rfl) ?_
          | refine aw_ct rfl ?_
          | refine aw_cf rfl ?_
          | refine aw_block ?_
          | refine then_n ?_
          | refine aw_skip ?_
          | refine aw_exit ?_
          | refine then_x ?_
          | refine then_r ?_
          | refine block_x ?_
          | refine block_n ?_
          | refine block_r ?_
          | refine aw_ret ?_
        refine ⟨⟨(i, k), k1.1, by simp only; omega, hlo, fun z hz => by rw [hy] at hz; cases hz; exact q⟩, by simp only; omega, ?_⟩
        exact subm 1 [0] rfl rfl fix1 (by decide) (.cons rfl rfl rfl rfl (les_refl (flat_noH _ _)) .nil) (by
          repeat' first
            | exact les_nil
            | refine les_cons ?_ ?_
            | exact le_any
            | exact le_refl rfl
            | exact le_sl rfl rfl
            | exact le_k (congrArg _ hv.symm))
    · have e : i = j := by have := of_decide_eq_false h; simp only at this; omega
      subst e
      have hfin := srt_front hB hj hlo hhi
      have e1 : IntKind.i64.wrap (((m + i : Nat) : Int) - 1) = ((P.length + i : Nat) : Int) := by rw [IntKind.wrap_i64]; omega
      repeat' first
        | refine aw_seq ?_
        | refine aw_region ?_
        | refine aw_lex [] ?_
        | (refine isA ?_; refine do_F rfl ?_)
        | (refine isL ?_; refine lex_F rfl (by kernel_rfl) rfl rfl ?_)
        | (refine isLg rfl ?_; refine lex_S rfl (by kernel_rfl) rfl rfl ?_)
        | refine aops_nil ?_
        | refine lex_done _ rfl (by kernel_rfl) ?_
        | refine aw_ct rfl ?_
        | refine aw_cf rfl ?_
        | refine aw_block ?_
        | refine then_n ?_
        | refine aw_skip ?_
        | refine aw_exit ?_
        | refine then_x ?_
        | refine then_r ?_
        | refine block_x ?_
        | refine block_n ?_
        | refine block_r ?_
        | refine aw_ret ?_
      refine aw_loop (α := { t : Nat // t ≤ i }) (fun t => ⟨((.sl 0 0 L) :: .any :: .any :: .any :: .any :: .any :: .any :: .any :: .any :: .any :: (I ((m + i : Nat) : Int)) :: .any :: .any :: (I ((P.length + t.1 : Nat) : Int)) :: .any :: .any :: .any :: .any :: .any :: .any :: .any :: .any :: .any :: .any :: .any :: .any :: .any :: .any :: .any :: .any :: .any :: .any :: .any :: .any :: .any :: .any :: .any :: .any :: .any :: .any :: .any :: .any :: .any :: .any :: .any :: .any :: .any :: .any :: .any :: .any :: .any :: .any :: .any :: .any :: .any :: .any :: .any :: .any :: .any :: .any :: .any :: .any :: .any :: .any :: .any :: .any :: .any :: .any :: .any :: .any :: .any :: .any :: .any :: .any :: .any :: .any :: .any :: .any :: .any :: .any :: .any :: .any :: .any :: .any :: .any :: .any :: .any :: .any :: .any :: .any :: .any :: .any :: .any :: .any :: .any :: .any :: .any :: .any :: .any :: .any :: .any :: .any :: .any :: .any :: .any :: .any :: .any :: .any :: .any :: .any :: .any :: .any :: .any :: .any :: .any :: .any :: .any :: .any :: .any :: .any :: .any :: .any :: .any :: .any :: .any :: .any :: .any :: .any :: .any :: .any :: .any :: .any :: .any :: .any :: .any :: .any :: .any :: .any :: .any :: .any :: .any :: .any :: .any :: .any :: .any :: .any :: .any :: .any :: .any :: .any :: .any :: .any :: .any :: .any :: .any :: .any :: .any :: .any :: .any :: .any :: .any :: .any :: .any :: .any :: .any :: .any :: .any :: .any :: .any :: .any :: .any :: .any :: .any :: .any :: .any :: .any :: .any :: .any :: .any :: .any :: .any :: .any :: .any :: .any :: .any :: .any :: .any :: .any :: .any :: .any :: .any :: .any :: .any :: .any :: .any :: .any :: .any :: .any :: .any :: .any :: .any :: .any :: .any :: .any :: .any :: .any :: .any :: .any :: .any :: .any :: .any :: .any :: .any :: .any :: .any :: .any :: .any :: .any :: .any :: .any :: []), [rwR (upL P B Q x t.1)], 1⟩) (fun t => i - t.1) ⟨0, Nat.zero_le _⟩ ?_ ?_
      · exact subm 1 [0] rfl rfl fix1 (by decide) (.cons rfl rfl rfl rfl (les_eq (congrArg rwT.flat (by simp [upL])) (flat_noH _ _)) .nil) (by repeat' first | exact les_nil | refine les_cons ?_ ?_ | exact le_any | exact le_refl rfl | exact le_sl rfl rfl | exact le_ptr rfl)
      · rintro ⟨t, ht⟩
        repeat' first
          | refine aw_seq ?_
          | refine aw_region ?_
          | refine aw_lex [] ?_
          | (refine isA ?_; refine do_F rfl ?_)
          | (refine isL ?_; refine lex_F rfl (by kernel_rfl) rfl rfl ?_)
          | (refine isLg rfl ?_; refine lex_S rfl (by kernel_rfl) rfl rfl ?_)
          | refine aops_nil ?_
          | refine lex_done _ rfl (by kernel_rfl) ?_
          | refine aw_ct rfl ?_
          | refine aw_cf rfl ?_
          | refine aw_block ?_
          | refine then_n ?_
          | refine aw_skip ?_
          | refine aw_exit ?_
          | refine then_x ?_
          | refine then_r ?_
          | refine block_x ?_
          | refine block_n ?_
          | refine block_r ?_
          | refine aw_ret ?_
        refine aw_cond rfl (fun q => ?_) (fun q => ?_)
        · have hlt : t < i := by have := of_decide_eq_true q; simp only [e1] at this; omega
          obtain ⟨y, hy⟩ : ∃ z, B[t]? = some z := ⟨_, List.getElem?_eq_getElem (by omega)⟩
          have hL1 : upL P B Q x t = (P ++ B.take t) ++ x :: y :: (B.drop (t + 1) ++ Q) := by rw [upL, take_drop1 hy]; rfl
          have hL2 : upL P B Q x (t + 1) = (P ++ B.take t) ++ y :: x :: (B.drop (t + 1) ++ Q) := by rw [upL, take_snoc hy]; simp
          have hu : (P ++ B.take t).length = P.length + t := by simp; omega
          have e2 : IntKind.i64.wrap (((P.length + t : Nat) : Int) + 1) = ((P.length + t + 1 : Nat) : Int) := by rw [IntKind.wrap_i64]; omega
          have g0 : (upL P B Q x t)[0 + (P.length + t)]? = some x := by rw [hL1, List.getElem?_append_right (by omega), hu, show 0 + (P.length + t) - (P.length + t) = 0 by omega]; rfl
          have g1 : (upL P B Q x t)[0 + (P.length + t + 1)]? = some y := by rw [hL1, List.getElem?_append_right (by omega), hu, show 0 + (P.length + t + 1) - (P.length + t) = 1 by omega]; rfl
          repeat' first
            | refine aw_seq ?_
            | refine aw_region ?_
            | (refine isA ?_; refine do_F rfl ?_)
            | (refine isL ?_; refine lex_F rfl (by kernel_rfl) rfl rfl ?_)
            | (refine isLg rfl ?_; refine lex_S rfl (by kernel_rfl) rfl rfl ?_)
            | refine aops_nil ?_
            | refine lex_done _ rfl (by kernel_rfl) ?_
            | refine aw_ct rfl ?_
            | refine aw_cf rfl ?_
            | refine aw_block ?_
            | refine then_n ?_
            | refine aw_skip ?_
            | refine aw_exit ?_
            | refine then_x ?_
            | refine then_r ?_
            | refine block_x ?_
            | refine block_n ?_
            | refine block_r ?_
            | refine aw_ret ?_
          refine aw_per [15, 17] 18 rfl ?_
          refine per_P 0 rfl (by kernel_rfl) rfl (fun _ => rfl) rfl ?_
          refine per_P 1 rfl (by kernel_rfl) rfl (fun _ => rfl) rfl ?_
          refine per_P 2 rfl (by kernel_rfl) rfl (fun _ => rfl) rfl ?_
          refine per_P 3 rfl (by kernel_rfl) rfl (fun _ => rfl) rfl ?_
          refine per_P 4 rfl (by kernel_rfl) rfl (fun _ => rfl) rfl ?_
          refine per_P 5 rfl (by kernel_rfl) rfl (fun _ => rfl) rfl ?_
          refine per_P 6 rfl (by kernel_rfl) rfl (fun _ => rfl) rfl ?_
          refine per_P 7 rfl (by kernel_rfl) rfl (fun _ => rfl) rfl ?_
          refine per_R 8 rfl (by kernel_rfl) rfl (step_ia_sl (j := ((P.length + t + 1 : Nat) : Int)) rfl rfl rfl (Nat.zero_le _) rfl (congrArg I e2) (Int.natCast_nonneg _) (by omega)) rfl ?_
          refine per_R 9 rfl (by kernel_rfl) rfl (ld_a (T := rwT) (i := 0 + (P.length + t + 1)) (z := y) rfl rfl rfl g1) rfl ?_
          refine per_P 10 rfl (by kernel_rfl) rfl (fun _ => rfl) rfl ?_
          refine per_P 11 rfl (by kernel_rfl) rfl (fun _ => rfl) rfl ?_
          refine per_R 12 rfl (by kernel_rfl) rfl (step_ia_sl (j := ((P.length + t : Nat) : Int)) rfl rfl rfl (Nat.zero_le _) rfl rfl (Int.natCast_nonneg _) (by omega)) rfl ?_
          refine per_R 13 rfl (by kernel_rfl) rfl (ld_a (T := rwT) (i := 0 + (P.length + t)) (z := x) rfl rfl rfl g0) rfl ?_
          refine per_R 14 rfl (by kernel_rfl) rfl (step_ia_sl (j := ((P.length + t : Nat) : Int)) rfl rfl rfl (Nat.zero_le _) rfl rfl (Int.natCast_nonneg _) (by omega)) rfl ?_
          refine per_W 15 rfl (by kernel_rfl) rfl rfl (set_l (T := rwT) (i := 0 + (P.length + t)) (z := y) rfl rfl rfl rfl rfl (List.getElem?_eq_some_iff.1 g0).1) rfl ?_
          refine per_R 16 rfl (by kernel_rfl) rfl (step_ia_sl (j := ((P.length + t + 1 : Nat) : Int)) rfl rfl rfl (Nat.zero_le _) rfl (congrArg I e2) (Int.natCast_nonneg _) (by omega)) rfl ?_
          refine per_W 17 rfl (by kernel_rfl) rfl rfl (set_l (T := rwT) (i := 0 + (P.length + t + 1)) (z := x) rfl rfl rfl rfl rfl (by rw [List.length_set]; exact (List.getElem?_eq_some_iff.1 g1).1)) rfl ?_
          refine per_done (by kernel_rfl) ?_
          repeat' first
            | refine aw_seq ?_
            | refine aw_region ?_
            | refine aw_lex [] ?_
            | (refine isA ?_; refine do_F rfl ?_)
            | (refine isL ?_; refine lex_F rfl (by kernel_rfl) rfl rfl ?_)
            | (refine isLg rfl ?_; refine lex_S rfl (by kernel_rfl) rfl rfl ?_)
            | refine aops_nil ?_
            | refine lex_done _ rfl (by kernel_rfl) ?_
            | refine aw_ct rfl ?_
            | refine aw_cf rfl ?_
            | refine aw_block ?_
            | refine then_n ?_
            | refine aw_skip ?_
            | refine aw_exit ?_
            | refine then_x ?_
            | refine then_r ?_
            | refine block_x ?_
            | refine block_n ?_
            | refine block_r ?_
            | refine aw_ret ?_
          refine ⟨⟨t + 1, hlt⟩, by simp only; omega, ?_⟩
          exact subm 1 [0] rfl rfl fix1 (by decide) (.cons rfl rfl rfl rfl (les_eq (show rwT.flat (((upL P B Q x t).set (0 + (P.length + t)) y).set (0 + (P.length + t + 1)) x) = rwT.flat (upL P B Q x (t + 1)) by rw [hL1, Nat.zero_add, Nat.zero_add, swap_up hu, hL2]) (flat_noH _ _)) .nil) (by
            repeat' first
              | exact les_nil
              | refine les_cons ?_ ?_
              | exact le_any
              | exact le_refl rfl
              | exact le_sl rfl rfl
              | exact le_k (congrArg _ (show ((P.length + (t + 1) : Nat) : Int) = IntKind.i64.wrap (((P.length + t : Nat) : Int) + 1) by rw [e2]; omega)))
        · have hge : t = i := by have := of_decide_eq_false q; simp only [e1] at this; omega
          subst hge
          have e3 : upL P B Q x t = P ++ srtV ([x] ++ B) ++ Q := by rw [← hfin, upL]; simp
          repeat' first
            | refine aw_seq ?_
            | refine aw_region ?_
            | refine aw_lex [] ?_
            | (refine isA ?_; refine do_F rfl ?_)
            | (refine isL ?_; refine lex_F rfl (by kernel_rfl) rfl rfl ?_)
            | (refine isLg rfl ?_; refine lex_S rfl (by kernel_rfl) rfl rfl ?_)
            | exact finMvr 1 [0] fix1 (by decide) (.cons rfl rfl rfl rfl (les_eq (congrArg rwT.flat e3) (flat_noH _ _)) .nil)
            | refine aops_nil ?_
            | refine lex_done _ rfl (by kernel_rfl) ?_
            | refine aw_ct rfl ?_
            | refine aw_cf rfl ?_
            | refine aw_block ?_
            | refine then_n ?_
            | refine aw_skip ?_
            | refine aw_exit ?_
            | refine then_x ?_
            | refine then_r ?_
            | refine block_x ?_
            | refine block_n ?_
            | refine block_r ?_
            | refine aw_ret ?_
end Go.Proofs.Ytojcojanokhnaaa.Ab

/- StI -/
namespace Go.Proofs.Ytojcojanokhnaaa.Ab
open Go.RowKit

theorem c_sym2 (P A Q : List Rw) (x : Rw) (hA : Srt A) (h0 : 2 ≤ A.length) (hl : (P ++ A ++ [x] ++ Q).length ≤ 100000000) : Meets Go.Proofs.Try.prog 131 [.sl 0 0 (P ++ A ++ [x] ++ Q).length, I P.length, I (P ++ A).length, I (P ++ A ++ [x]).length, .fn 64 []] [rwR (P ++ A ++ [x] ++ Q)] (.tup []) [rwR (P ++ srtV (A ++ [x]) ++ Q)] true := by
  have l1 : (P ++ A).length = P.length + A.length := by simp
  have l2 : (P ++ A ++ [x]).length = P.length + A.length + 1 := by simp; omega
  have l3 : (P ++ A ++ [x] ++ Q).length = P.length + A.length + 1 + Q.length := by simp; omega
  generalize hm : (P ++ A).length = m at l1 ⊢
  generalize hb : (P ++ A ++ [x]).length = b at l2 ⊢
  generalize hL : (P ++ A ++ [x] ++ Q).length = L at hl l3 ⊢
  refine meets_of [] Go.Proofs.Try.func131 rfl rfl ?_
  simp only [Go.Proofs.Try.ntmps131, List.length_cons, List.length_nil, Nat.reduceAdd, Nat.reduceSub, List.replicate_succ, List.replicate_zero, List.cons_append, List.nil_append]
  repeat' first
    | refine aw_seq ?_
    | refine aw_region ?_
    | refine aw_lex [] ?_
    | (refine isA ?_; refine do_F rfl ?_)
    | (refine isL ?_; refine lex_F rfl (by kernel_rfl) rfl rfl ?_)
    | (refine isLg rfl ?_; refine lex_S rfl (by kernel_rfl) rfl rfl ?_)
    | refine aops_nil ?_
    | refine lex_done _ rfl (by kernel_rfl) ?_
    | refine aw_ct rfl ?_
    | refine aw_cf rfl ?_
    | refine aw_block ?_
    | refine then_n ?_
    | refine aw_skip ?_
    | refine aw_exit ?_
    | refine then_x ?_
    | refine then_r ?_
    | refine block_x ?_
    | refine block_n ?_
    | refine block_r ?_
    | refine aw_ret ?_
  refine aw_cond rfl (fun h => absurd (of_decide_eq_true h) (by rw [IntKind.wrap_i64]; omega)) (fun _ => ?_)
  repeat' first
    | refine aw_seq ?_
    | refine aw_region ?_
    | refine aw_lex [] ?_
    | (refine isA ?_; refine do_F rfl ?_)
    | (refine isL ?_; refine lex_F rfl (by kernel_rfl) rfl rfl ?_)
    | (refine isLg rfl ?_; refine lex_S rfl (by kernel_rfl) rfl rfl ?_)
    | refine aops_nil ?_
    | refine lex_done _ rfl (by kernel_rfl) ?_
    | refine aw_ct rfl ?_
    | refine aw_cf rfl ?_
    | refine aw_block ?_
    | refine then_n ?_
    | refine aw_skip ?_
    | refine aw_exit ?_
    | refine then_x ?_
    | refine then_r ?_
    | refine block_x ?_
    | refine block_n ?_
    | refine block_r ?_
    | refine aw_ret ?_
  refine aw_cond rfl (fun _ => ?_) (fun h => absurd (of_decide_eq_false h) (by rw [IntKind.wrap_i64]; omega))
  repeat' first
    | refine aw_seq ?_
    | refine aw_region ?_
    | refine aw_lex [] ?_
    | (refine isA ?_; refine do_F rfl ?_)
    | (refine isL ?_; refine lex_F rfl (by kernel_rfl) rfl rfl ?_)
    | (refine isLg rfl ?_; refine lex_S rfl (by kernel_rfl) rfl rfl ?_)
    | refine aops_nil ?_
    | refine lex_done _ rfl (by kernel_rfl) ?_
    | refine aw_ct rfl ?_
    | refine aw_cf rfl ?_
    | refine aw_block ?_
    | refine then_n ?_
    | refine aw_skip ?_
    | refine aw_exit ?_
    | refine then_x ?_
    | refine then_r ?_
    | refine block_x ?_
    | refine block_n ?_
    | refine block_r ?_
    | refine aw_ret ?_
  refine aw_loop (α := { p : Nat × Nat // p.1 ≤ p.2 ∧ p.2 ≤ A.length ∧ (∀ z, 0 < p.1 → A[p.1 - 1]? = some z → leW z x) ∧ (∀ z, A[p.2]? = some z → leW x z) }) (fun p => ⟨((.sl 0 0 L) :: (I P.length) :: (I m) :: (I b) :: (.fn 64 []) :: .any :: .any :: .any :: .any :: .any :: .any :: .any :: .any :: .any :: (I ((P.length + p.1.1 : Nat) : Int)) :: (I ((P.length + p.1.2 : Nat) : Int)) :: .any :: .any :: .any :: .any :: .any :: .any :: .any :: .any :: .any :: .any :: .any :: .any :: .any :: .any :: .any :: .any :: .any :: .any :: .any :: .any :: .any :: .any :: .any :: .any :: .any :: .any :: .any :: .any :: .any :: .any :: .any :: .any :: .any :: .any :: .any :: .any :: .any :: .any :: .any :: .any :: .any :: .any :: .any :: .any :: .any :: .any :: .any :: .any :: .any :: .any :: .any :: .any :: .any :: .any :: .any :: .any :: .any :: .any :: .any :: .any :: .any :: .any :: .any :: .any :: .any :: .any :: .any :: .any :: .any :: .any :: .any :: .any :: .any :: .any :: .any :: .any :: .any :: .any :: .any :: .any :: .any :: .any :: .any :: .any :: .any :: .any :: .any :: .any :: .any :: .any :: .any :: .any :: .any :: .any :: .any :: .any :: .any :: .any :: .any :: .any :: .any :: .any :: .any :: .any :: .any :: .any :: .any :: .any :: .any :: .any :: .any :: .any :: .any :: .any :: .any :: .any :: .any :: .any :: .any :: .any :: .any :: .any :: .any :: .any :: .any :: .any :: .any :: .any :: .any :: .any :: .any :: .any :: .any :: .any :: .any :: .any :: .any :: .any :: .any :: .any :: .any :: .any :: .any :: .any :: .any :: .any :: .any :: .any :: .any :: .any :: .any :: .any :: .any :: .any :: .any :: .any :: .any :: .any :: .any :: .any :: .any :: .any :: .any :: .any :: .any :: .any :: .any :: .any :: .any :: .any :: .any :: .any :: .any :: .any :: .any :: .any :: .any :: .any :: .any :: .any :: .any :: .any :: .any :: .any :: .any :: .any :: .any :: .any :: .any :: .any :: .any :: .any :: .any :: .any :: .any :: .any :: .any :: .any :: .any :: .any :: .any :: .any :: .any :: .any :: []), [rwR (P ++ A ++ [x] ++ Q)], 1⟩) (fun p => p.1.2 - p.1.1) ⟨(0, A.length), Nat.zero_le _, Nat.le_refl _, fun _ h => absurd h (Nat.lt_irrefl 0), fun z hz => absurd (List.getElem?_eq_some_iff.1 hz).1 (Nat.lt_irrefl _)⟩ ?_ ?_
  · exact subm 1 [0] rfl rfl fix1 (by decide) (.cons rfl rfl rfl rfl (les_refl (flat_noH _ _)) .nil) (by
          repeat' first
            | exact les_nil
            | refine les_cons ?_ ?_
            | exact le_any
            | exact le_refl rfl
            | exact le_sl rfl rfl
            | exact le_k (congrArg _ (show ((P.length + A.length : Nat) : Int) = (m : Int) by omega)))
  · rintro ⟨⟨i, j⟩, hij, hj, hlo, hhi⟩
    simp only at hij hj hlo hhi
    repeat' first
      | refine aw_seq ?_
      | refine aw_region ?_
      | refine aw_lex [] ?_
      | (refine isA ?_; refine do_F rfl ?_)
      | (refine isL ?_; refine lex_F rfl (by kernel_rfl) rfl rfl ?_)
      | (refine isLg rfl ?_; refine lex_S rfl (by kernel_rfl) rfl rfl ?_)
      | refine aops_nil ?_
      | refine lex_done _ rfl (by kernel_rfl) ?_
      | refine aw_ct rfl ?_
      | refine aw_cf rfl ?_
      | refine aw_block ?_
      | refine then_n ?_
      | refine aw_skip ?_
      | refine aw_exit ?_
      | refine then_x ?_
      | refine then_r ?_
      | refine block_x ?_
      | refine block_n ?_
      | refine block_r ?_
      | refine aw_ret ?_
    refine aw_cond rfl (fun h => ?_) (fun h => ?_)
    · have hlt : i < j := by have := of_decide_eq_true h; simp only at this; omega
      obtain ⟨k, hk⟩ : ∃ k, k = (i + j) / 2 := ⟨_, rfl⟩
      have k1 : i ≤ k ∧ k < j := by omega
      have hv : IntKind.i64.wrap (bShr .u64 (IntKind.u64.wrap (IntKind.i64.wrap (((P.length + i : Nat) : Int) + ((P.length + j : Nat) : Int)))) 1) = ((P.length + k : Nat) : Int) := by
        rw [half_val (by omega)]; omega
      obtain ⟨y, hy⟩ : ∃ z, A[k]? = some z := ⟨_, List.getElem?_eq_getElem (by omega)⟩
      have gy : (P ++ A ++ [x] ++ Q)[0 + (P.length + k)]? = some y := by
        rw [List.append_assoc, List.getElem?_append_left (by omega), List.getElem?_append_right (by omega), show 0 + (P.length + k) - P.length = k by omega]; exact hy
      have gx : (P ++ A ++ [x] ++ Q)[0 + m]? = some x := by
        rw [List.append_assoc, List.getElem?_append_right (by omega), hm, show 0 + m - m = 0 by omega]; rfl
      repeat' first
        | refine aw_seq ?_
        | refine aw_region ?_
        | refine aw_lex [] ?_
        | (refine isA ?_; refine do_F rfl ?_)
        | (refine isL ?_; refine lex_F rfl (by kernel_rfl) rfl rfl ?_)
        | (refine isLg rfl ?_; refine lex_S rfl (by kernel_rfl) rfl rfl ?_)
        | refine do_R rfl (step_shr (n := 1) rfl rfl rfl) rfl ?_
        | refine lex_R rfl (by kernel_rfl) rfl (step_shr (n := 1) rfl rfl rfl) rfl ?_
        | (refine isAi (x := .tmp 97) ?_; refine do_R rfl (step_ia_sl (j := ((P.length + k : Nat) : Int)) rfl rfl rfl (Nat.zero_le _) rfl (congrArg I hv) (Int.natCast_nonneg _) (by omega)) rfl ?_)
        | (refine isLi (x := .tmp 97) rfl ?_; refine lex_R rfl (by kernel_rfl) rfl (step_ia_sl (j := ((P.length + k : Nat) : Int)) rfl rfl rfl (Nat.zero_le _) rfl (congrArg I hv) (Int.natCast_nonneg _) (by omega)) rfl ?_)
        | (refine isAi (x := .tmp 93) ?_; refine do_R rfl (step_ia_sl (j := (m : Int)) rfl rfl rfl (Nat.zero_le _) rfl rfl (Int.natCast_nonneg _) (by omega)) rfl ?_)
        | (refine isLi (x := .tmp 93) rfl ?_; refine lex_R rfl (by kernel_rfl) rfl (step_ia_sl (j := (m : Int)) rfl rfl rfl (Nat.zero_le _) rfl rfl (Int.natCast_nonneg _) (by omega)) rfl ?_)
        | (refine isAl (x := .tmp 99) ?_; refine do_R rfl (ld_a (T := rwT) (i := 0 + (P.length + k)) (z := y) rfl rfl rfl gy) rfl ?_)
        | (refine isLl (x := .tmp 99) rfl ?_; refine lex_R rfl (by kernel_rfl) rfl (ld_a (T := rwT) (i := 0 + (P.length + k)) (z := y) rfl rfl rfl gy) rfl ?_)
        | (refine isAl (x := .tmp 95) ?_; refine do_R rfl (ld_a (T := rwT) (i := 0 + m) (z := x) rfl rfl rfl gx) rfl ?_)
        | (refine isLl (x := .tmp 95) rfl ?_; refine lex_R rfl (by kernel_rfl) rfl (ld_a (T := rwT) (i := 0 + m) (z := x) rfl rfl rfl gx) rfl ?_)
        | refine do_R rfl (st_callV rfl rfl (c_icmp x y) (.cons (.same rfl) (.cons (.same rfl) .nil)) rfl) rfl ?_
        | refine lex_R rfl (by kernel_rfl) rfl (st_callV rfl rfl (c_icmp x y) (.cons (.same rfl) (.cons (.same rfl) .nil)) rfl) rfl ?_
        | refine aops_nil ?_
        | refine lex_done _ rfl (by kernel_rfl) ?_
        | refine aw_ct rfl ?_
        | refine aw_cf rfl ?_
        | refine aw_block ?_
        | refine then_n ?_
        | refine aw_skip ?_
        | refine aw_exit ?_
        | refine then_x ?_
        | refine then_r ?_
        | refine block_x ?_
        | refine block_n ?_
        | refine block_r ?_
        | refine aw_ret ?_
      refine aw_cond rfl (fun p => ?_) (fun p => ?_)
      · have p' : decide (cmpV x y < 0) = false := by simpa using p
        have q : leW y x := Classical.byContradiction fun hn => absurd (cmp_neg.2 hn) (of_decide_eq_false p')
        repeat' first
          | refine aw_seq ?_
          | refine aw_region ?_
          | refine aw_lex [] ?_
          | (refine isA ?_; refine do_F rfl ?_)
          | (refine isL ?_; refine lex_F rfl (by kernel_rfl) rfl rfl ?_)
          | (refine isLg rfl ?_; refine lex_S rfl (by kernel_rfl) rfl rfl ?_)
          | refine aops_nil ?_
          | refine lex_done _ rfl (by kernel_rfl) ?_
          | refine aw_ct rfl ?_
          | refine aw_cf rfl ?_
          | refine aw_block ?_
          | refine then_n ?_
          | refine aw_skip ?_
          | refine aw_exit ?_
          | refine then_x ?_
          | refine then_r ?_
          | refine block_x ?_
          | refine block_n ?_
          | refine block_r ?_
          | refine aw_ret ?_
        refine ⟨⟨(k + 1, j), by simp only; omega, hj, fun z _ hz => by simp only [Nat.add_sub_cancel] at hz; rw [hy] at hz; cases hz; exact q, hhi⟩, by simp only; omega, ?_⟩
        exact subm 1 [0] rfl rfl fix1 (by decide) (.cons rfl rfl rfl rfl (les_refl (flat_noH _ _)) .nil) (by
          repeat' first
            | exact les_nil
            | refine les_cons ?_ ?_
            | exact le_any
            | exact le_refl rfl
            | exact le_sl rfl rfl
            | exact le_k (congrArg _ (show ((P.length + (k + 1) : Nat) : Int) = IntKind.i64.wrap (IntKind.i64.wrap (bShr .u64 (IntKind.u64.wrap (IntKind.i64.wrap (((P.length + i : Nat) : Int) + ((P.length + j : Nat) : Int)))) 1) + 1) by rw [hv, IntKind.wrap_i64]; omega)))
      · have p' : decide (cmpV x y < 0) = true := by simpa using p
        have q := leW_not (cmp_neg.1 (of_decide_eq_true p'))
        repeat' first
          | refine aw_seq ?_
          | refine aw_region ?_
          | refine aw_lex [] ?_
          | (refine isA ?_; refine do_F rfl ?_)
          | (refine isL ?_; refine lex_F rfl (by kernel_rfl) rfl rfl ?_)
          | (refine isLg rfl ?_; refine lex_S rfl (by kernel_rfl) rfl rfl ?_)
          | refine aops_nil ?_
          | refine lex_done _ rfl (by kernel_rfl) ?_
          | refine aw_ct rfl ?_
          | refine aw_cf rfl ?_
          | refine aw_block ?_
          | refine then_n ?_
          | refine aw_skip ?_
          | refine aw_exit ?_
          | refine then_x ?_
          | refine then_r ?_
          | refine block_x ?_
          | refine block_n ?_
          | refine block_r ?_
          | refine aw_ret ?_
        refine ⟨⟨(i, k), k1.1, by simp only; omega, hlo, fun z hz => by rw [hy] at hz; cases hz; exact q⟩, by simp only; omega, ?_⟩
        exact subm 1 [0] rfl rfl fix1 (by decide) (.cons rfl rfl rfl rfl (les_refl (flat_noH _ _)) .nil) (by
          repeat' first
            | exact les_nil
            | refine les_cons ?_ ?_
            | exact le_any
            | exact le_refl rfl
            | exact le_sl rfl rfl
            | exact le_k (congrArg _ hv.symm))
    · have e : i = j := by have := of_decide_eq_false h; simp only at this; omega
      subst e
      have hfin := srt_back hA hj hlo hhi
      repeat' first
        | refine aw_seq ?_
        | refine aw_region ?_
        | refine aw_lex [] ?_
        | (refine isA ?_; refine do_F rfl ?_)
        | (refine isL ?_; refine lex_F rfl (by kernel_rfl) rfl rfl ?_)
        | (refine isLg rfl ?_; refine lex_S rfl (by kernel_rfl) rfl rfl ?_)
        | refine aops_nil ?_
        | refine lex_done _ rfl (by kernel_rfl) ?_
        | refine aw_ct rfl ?_
        | refine aw_cf rfl ?_
        | refine aw_block ?_
        | refine then_n ?_
        | refine aw_skip ?_
        | refine aw_exit ?_
        | refine then_x ?_
        | refine then_r ?_
        | refine block_x ?_
        | refine block_n ?_
        | refine block_r ?_
        | refine aw_ret ?_
      refine aw_loop (α := { t : Nat // i ≤ t ∧ t ≤ A.length }) (fun t => ⟨((.sl 0 0 L) :: .any :: .any :: .any :: .any :: .any :: .any :: .any :: .any :: .any :: .any :: .any :: .any :: .any :: (I ((P.length + i : Nat) : Int)) :: .any :: .any :: (I ((P.length + t.1 : Nat) : Int)) :: .any :: .any :: .any :: .any :: .any :: .any :: .any :: .any :: .any :: .any :: .any :: .any :: .any :: .any :: .any :: .any :: .any :: .any :: .any :: .any :: .any :: .any :: .any :: .any :: .any :: .any :: .any :: .any :: .any :: .any :: .any :: .any :: .any :: .any :: .any :: .any :: .any :: .any :: .any :: .any :: .any :: .any :: .any :: .any :: .any :: .any :: .any :: .any :: .any :: .any :: .any :: .any :: .any :: .any :: .any :: .any :: .any :: .any :: .any :: .any :: .any :: .any :: .any :: .any :: .any :: .any :: .any :: .any :: .any :: .any :: .any :: .any :: .any :: .any :: .any :: .any :: .any :: .any :: .any :: .any :: .any :: .any :: .any :: .any :: .any :: .any :: .any :: .any :: .any :: .any :: .any :: .any :: .any :: .any :: .any :: .any :: .any :: .any :: .any :: .any :: .any :: .any :: .any :: .any :: .any :: .any :: .any :: .any :: .any :: .any :: .any :: .any :: .any :: .any :: .any :: .any :: .any :: .any :: .any :: .any :: .any :: .any :: .any :: .any :: .any :: .any :: .any :: .any :: .any :: .any :: .any :: .any :: .any :: .any :: .any :: .any :: .any :: .any :: .any :: .any :: .any :: .any :: .any :: .any :: .any :: .any :: .any :: .any :: .any :: .any :: .any :: .any :: .any :: .any :: .any :: .any :: .any :: .any :: .any :: .any :: .any :: .any :: .any :: .any :: .any :: .any :: .any :: .any :: .any :: .any :: .any :: .any :: .any :: .any :: .any :: .any :: .any :: .any :: .any :: .any :: .any :: .any :: .any :: .any :: .any :: .any :: .any :: .any :: .any :: .any :: .any :: .any :: .any :: .any :: .any :: .any :: .any :: .any :: .any :: .any :: .any :: .any :: []), [rwR (upL P A Q x t.1)], 1⟩) (fun t => t.1) ⟨A.length, hj, Nat.le_refl _⟩ ?_ ?_
      · exact subm 1 [0] rfl rfl fix1 (by decide) (.cons rfl rfl rfl rfl (les_eq (congrArg rwT.flat (by simp [upL])) (flat_noH _ _)) .nil) (by
          repeat' first
            | exact les_nil
            | refine les_cons ?_ ?_
            | exact le_any
            | exact le_refl rfl
            | exact le_sl rfl rfl
            | exact le_k (congrArg _ (show ((P.length + A.length : Nat) : Int) = (m : Int) by omega)))
      · rintro ⟨t', ht1, ht2⟩
        repeat' first
          | refine aw_seq ?_
          | refine aw_region ?_
          | refine aw_lex [] ?_
          | (refine isA ?_; refine do_F rfl ?_)
          | (refine isL ?_; refine lex_F rfl (by kernel_rfl) rfl rfl ?_)
          | (refine isLg rfl ?_; refine lex_S rfl (by kernel_rfl) rfl rfl ?_)
          | refine aops_nil ?_
          | refine lex_done _ rfl (by kernel_rfl) ?_
          | refine aw_ct rfl ?_
          | refine aw_cf rfl ?_
          | refine aw_block ?_
          | refine then_n ?_
          | refine aw_skip ?_
          | refine aw_exit ?_
          | refine then_x ?_
          | refine then_r ?_
          | refine block_x ?_
          | refine block_n ?_
          | refine block_r ?_
          | refine aw_ret ?_
        refine aw_cond rfl (fun q => ?_) (fun q => ?_)
        · have hlt : i < t' := by have := of_decide_eq_true q; simp only at this; omega
          obtain ⟨t, rfl⟩ : ∃ t, t' = t + 1 := ⟨t' - 1, by omega⟩
          obtain ⟨y, hy⟩ : ∃ z, A[t]? = some z := ⟨_, List.getElem?_eq_getElem (by omega)⟩
          have hL1 : upL P A Q x (t + 1) = (P ++ A.take t) ++ y :: x :: (A.drop (t + 1) ++ Q) := by rw [upL, take_snoc hy]; simp
          have hL2 : upL P A Q x t = (P ++ A.take t) ++ x :: y :: (A.drop (t + 1) ++ Q) := by rw [upL, take_drop1 hy]; rfl
          have hu : (P ++ A.take t).length = P.length + t := by simp; omega
          have ew : IntKind.i64.wrap (((P.length + (t + 1) : Nat) : Int) - 1) = ((P.length + t : Nat) : Int) := by rw [IntKind.wrap_i64]; omega
          have g0 : (upL P A Q x (t + 1))[0 + (P.length + t)]? = some y := by rw [hL1, List.getElem?_append_right (by omega), hu, show 0 + (P.length + t) - (P.length + t) = 0 by omega]; rfl
          have g1 : (upL P A Q x (t + 1))[0 + (P.length + t + 1)]? = some x := by rw [hL1, List.getElem?_append_right (by omega), hu, show 0 + (P.length + t + 1) - (P.length + t) = 1 by omega]; rfl
          repeat' first
            | refine aw_seq ?_
            | refine aw_region ?_
            | (refine isA ?_; refine do_F rfl ?_)
            | (refine isL ?_; refine lex_F rfl (by kernel_rfl) rfl rfl ?_)
            | (refine isLg rfl ?_; refine lex_S rfl (by kernel_rfl) rfl rfl ?_)
            | refine aops_nil ?_
            | refine lex_done _ rfl (by kernel_rfl) ?_
            | refine aw_ct rfl ?_
            | refine aw_cf rfl ?_
            | refine aw_block ?_
            | refine then_n ?_
            | refine aw_skip ?_
            | refine aw_exit ?_
            | refine then_x ?_
            | refine then_r ?_
            | refine block_x ?_
            | refine block_n ?_
            | refine block_r ?_
            | refine aw_ret ?_
          refine aw_per [15, 17] 18 rfl ?_
          refine per_P 0 rfl (by kernel_rfl) rfl (fun _ => rfl) rfl ?_
          refine per_P 1 rfl (by kernel_rfl) rfl (fun _ => rfl) rfl ?_
          refine per_P 2 rfl (by kernel_rfl) rfl (fun _ => rfl) rfl ?_
          refine per_P 3 rfl (by kernel_rfl) rfl (fun _ => rfl) rfl ?_
          refine per_P 4 rfl (by kernel_rfl) rfl (fun _ => rfl) rfl ?_
          refine per_P 5 rfl (by kernel_rfl) rfl (fun _ => rfl) rfl ?_
          refine per_P 6 rfl (by kernel_rfl) rfl (fun _ => rfl) rfl ?_
          refine per_P 7 rfl (by kernel_rfl) rfl (fun _ => rfl) rfl ?_
          refine per_R 8 rfl (by kernel_rfl) rfl (step_ia_sl (j := ((P.length + t : Nat) : Int)) rfl rfl rfl (Nat.zero_le _) rfl (congrArg I ew) (Int.natCast_nonneg _) (by omega)) rfl ?_
          refine per_R 9 rfl (by kernel_rfl) rfl (ld_a (T := rwT) (i := 0 + (P.length + t)) (z := y) rfl rfl rfl g0) rfl ?_
          refine per_P 10 rfl (by kernel_rfl) rfl (fun _ => rfl) rfl ?_
          refine per_P 11 rfl (by kernel_rfl) rfl (fun _ => rfl) rfl ?_
          refine per_R 12 rfl (by kernel_rfl) rfl (step_ia_sl (j := ((P.length + t + 1 : Nat) : Int)) rfl rfl rfl (Nat.zero_le _) rfl rfl (Int.natCast_nonneg _) (by omega)) rfl ?_
          refine per_R 13 rfl (by kernel_rfl) rfl (ld_a (T := rwT) (i := 0 + (P.length + t + 1)) (z := x) rfl rfl rfl g1) rfl ?_
          refine per_R 14 rfl (by kernel_rfl) rfl (step_ia_sl (j := ((P.length + t + 1 : Nat) : Int)) rfl rfl rfl (Nat.zero_le _) rfl rfl (Int.natCast_nonneg _) (by omega)) rfl ?_
          refine per_W 15 rfl (by kernel_rfl) rfl rfl (set_l (T := rwT) (i := 0 + (P.length + t + 1)) (z := y) rfl rfl rfl rfl rfl (List.getElem?_eq_some_iff.1 g1).1) rfl ?_
          refine per_R 16 rfl (by kernel_rfl) rfl (step_ia_sl (j := ((P.length + t : Nat) : Int)) rfl rfl rfl (Nat.zero_le _) rfl (congrArg I ew) (Int.natCast_nonneg _) (by omega)) rfl ?_
          refine per_W 17 rfl (by kernel_rfl) rfl rfl (set_l (T := rwT) (i := 0 + (P.length + t)) (z := x) rfl rfl rfl rfl rfl (by rw [List.length_set]; exact (List.getElem?_eq_some_iff.1 g0).1)) rfl ?_
          refine per_done (by kernel_rfl) ?_
          repeat' first
            | refine aw_seq ?_
            | refine aw_region ?_
            | refine aw_lex [] ?_
            | (refine isA ?_; refine do_F rfl ?_)
            | (refine isL ?_; refine lex_F rfl (by kernel_rfl) rfl rfl ?_)
            | (refine isLg rfl ?_; refine lex_S rfl (by kernel_rfl) rfl rfl ?_)
            | refine aops_nil ?_
            | refine lex_done _ rfl (by kernel_rfl) ?_
            | refine aw_ct rfl ?_
            | refine aw_cf rfl ?_
            | refine aw_block ?_
            | refine then_n ?_
            | refine aw_skip ?_
            | refine aw_exit ?_
            | refine then_x ?_
            | refine then_r ?_
            | refine block_x ?_
            | refine block_n ?_
            | refine block_r ?_
            | refine aw_ret ?_
          refine ⟨⟨t, by omega, by omega⟩, by simp only; omega, ?_⟩
          exact subm 1 [0] rfl rfl fix1 (by decide) (.cons rfl rfl rfl rfl (les_eq (show rwT.flat (((upL P A Q x (t + 1)).set (0 + (P.length + t + 1)) y).set (0 + (P.length + t)) x) = rwT.flat (upL P A Q x t) by rw [hL1, Nat.zero_add, Nat.zero_add, swap_at hu, hL2]) (flat_noH _ _)) .nil) (by
          repeat' first
            | exact les_nil
            | refine les_cons ?_ ?_
            | exact le_any
            | exact le_refl rfl
            | exact le_sl rfl rfl
            | exact le_k (congrArg _ ew.symm))
        · have hge : t' = i := by have := of_decide_eq_false q; simp only at this; omega
          subst hge
          have e3 : upL P A Q x t' = P ++ srtV (A ++ [x]) ++ Q := by rw [← hfin, upL]; simp
          repeat' first
            | refine aw_seq ?_
            | refine aw_region ?_
            | refine aw_lex [] ?_
            | (refine isA ?_; refine do_F rfl ?_)
            | (refine isL ?_; refine lex_F rfl (by kernel_rfl) rfl rfl ?_)
            | (refine isLg rfl ?_; refine lex_S rfl (by kernel_rfl) rfl rfl ?_)
            | exact finMvr 1 [0] fix1 (by decide) (.cons rfl rfl rfl rfl (les_eq (congrArg rwT.flat e3) (flat_noH _ _)) .nil)
            | refine aops_nil ?_
            | refine lex_done _ rfl (by kernel_rfl) ?_
            | refine aw_ct rfl ?_
            | refine aw_cf rfl ?_
            | refine aw_block ?_
            | refine then_n ?_
            | refine aw_skip ?_
            | refine aw_exit ?_
            | refine then_x ?_
            | refine then_r ?_
            | refine block_x ?_
            | refine block_n ?_
            | refine block_r ?_
            | refine aw_ret ?_
end Go.Proofs.Ytojcojanokhnaaa.Ab
