/-
  Runs as rows of one's own: copies, marks, marks held, comparison.
-/
import Derived.Test.YtngeppmincgebaaRnB
namespace Go.Proofs.Ytngeppmincgebaa.Ab
open Go.RowKit
set_option linter.unusedVariables false
set_option linter.unusedSimpArgs false
set_option maxRecDepth 20000
set_option maxHeartbeats 1000000

theorem take_drop1 {α : Type} {rs : List α} {i : Nat} {z : α} (hz : rs[i]? = some z) : rs.drop i = z :: rs.drop (i + 1) := by
  obtain ⟨h, e⟩ := List.getElem?_eq_some_iff.1 hz
  rw [List.drop_eq_getElem_cons h, e]

/-- A list of runs, all of it as rows of one's own, handed back. -/
theorem hle_rn {rs : List Rn} {H : List Reg} {o : Nat} (hlt : rs.length < o) (ho : H[o]? = some ⟨93, 1, nC 1 rs, 0⟩) (hR : ∀ j x, rs[j]? = some x → H[1 + j]? = some (rwR x)) : HLe ([o] ++ List.range' 1 rs.length) (rnN rs) H :=
  hle_nest (K1 := [⟨93, 1, nC 1 rs, 0⟩]) (psi_nodup (by simp) (by simp; omega)) (.cons ho rfl rfl rfl (les_nC fun j hj => psi_at [o] 1 rs.length j hj) .nil) hR
theorem hle_rn0 (rs : List Rn) : HLe ([0] ++ List.range' 1 rs.length) (rnN rs) (rnN rs) :=
  hle_nest (K1 := [⟨93, 1, nC 1 rs, 0⟩]) (psi_nodup (by simp) (by simp)) (.cons rfl rfl rfl rfl (les_nC fun j hj => psi_at [0] 1 rs.length j hj) .nil) (fun j x hx => by rw [Nat.add_comm]; exact nR_at hx)
theorem rnN_flatS (rs : List Rn) : ∀ q ∈ rnN rs, q.mode ≠ 1 ∧ (q.mode = 0 → FlatS q.cells) := fun q hq => by
  rcases List.mem_cons.1 hq with rfl | hq
  · exact ⟨Nat.zero_ne_one, fun _ => nC_flatS 1 rs⟩
  · obtain ⟨x, _, rfl⟩ := List.mem_map.1 hq
    exact ⟨Nat.zero_ne_one, fun _ => (flat_rw x).flatS⟩

theorem c_toRunSO (rs : List Rn) (hok : okRn rs) : Meets Go.Proofs.Try.prog 31 [rnL rs] [] (.sl 0 0 rs.length) (rnN rs) true := by
  have hl := hok.1
  refine meets_of [2] Go.Proofs.Try.func31 rfl rfl ?_
  simp only [Go.Proofs.Try.ntmps31, List.length_cons, List.length_nil, Nat.reduceAdd, Nat.reduceSub, List.replicate_succ, List.replicate_zero, List.cons_append, List.nil_append]
  repeat' first
    | refine aw_seq ?_
    | refine aw_region ?_
    | refine aw_lex [] ?_
    | (refine isA ?_; refine do_F rfl ?_)
    | (refine isL ?_; refine lex_F rfl (by kernel_rfl) rfl rfl ?_)
    | (refine isLg rfl ?_; refine lex_S rfl (by kernel_rfl) rfl rfl ?_)
    | (refine isAm ?_; refine do_R rfl (mkN (.slice none 0 0) rfl rfl rfl hl rfl) rfl ?_)
    | (refine isLm rfl ?_; refine lex_R rfl (by kernel_rfl) rfl (mkN (.slice none 0 0) rfl rfl rfl hl rfl) rfl ?_)
    | refine aops_nil ?_
    | refine lex_done _ rfl (by kernel_rfl) ?_
    | refine aw_ct rfl ?_
    | refine aw_cf rfl ?_
    | refine aw_block ?_
    | refine then_n ?_
    | refine aw_skip ?_
    | refine aw_exit ?_
    | refine then_x ?_
    | refine then_r ?_
    | refine block_x ?_
    | refine block_n ?_
    | refine block_r ?_
    | refine aw_ret ?_
  refine aw_loop (α := { i : Nat // i ≤ rs.length }) (fun i => ⟨[rnL rs, .any, .any, .sl 0 0 rs.length, I i.1, .any, .any, .any, .any, .any, .any, .any, .any, .any, .any, .any, .any, .any, .any, .any, .any, .any, .any], ⟨93, 1, nC 1 (rs.take i.1) ++ List.replicate (rs.length - i.1) nilV, 0⟩ :: nR rwT 75 (rs.take i.1), 0⟩) (fun i => rs.length - i.1) ⟨0, Nat.zero_le _⟩ ?_ ?_
  · exact sub_id rfl (by repeat' first | exact EqS.nil | refine EqS.any ?_ | refine EqS.same rfl ?_)
  · rintro ⟨i, hi⟩
    repeat' first
      | refine aw_seq ?_
      | refine aw_region ?_
      | refine aw_lex [] ?_
      | (refine isA ?_; refine do_F rfl ?_)
      | (refine isL ?_; refine lex_F rfl (by kernel_rfl) rfl rfl ?_)
      | (refine isLg rfl ?_; refine lex_S rfl (by kernel_rfl) rfl rfl ?_)
      | refine aops_nil ?_
      | refine lex_done _ rfl (by kernel_rfl) ?_
      | refine aw_ct rfl ?_
      | refine aw_cf rfl ?_
      | refine aw_block ?_
      | refine then_n ?_
      | refine aw_skip ?_
      | refine aw_exit ?_
      | refine then_x ?_
      | refine then_r ?_
      | refine block_x ?_
      | refine block_n ?_
      | refine block_r ?_
      | refine aw_ret ?_
    refine aw_cond rfl (fun h => ?_) (fun h => ?_)
    · have hlt : i < rs.length := by simpa using h
      obtain ⟨z, hz⟩ : ∃ z, rs[i]? = some z := ⟨_, List.getElem?_eq_getElem hlt⟩
      have hlen : (nC 1 (rs.take i)).length = i := by rw [nC_length]; simp; omega
      have hHl : ((⟨93, 1, nC 1 (rs.take i) ++ List.replicate (rs.length - i) nilV, 0⟩ :: nR rwT 75 (rs.take i) : List Reg)).length = 1 + i := by simp [nR_length]; omega
      repeat' first
        | refine aw_seq ?_
        | refine aw_region ?_
        | refine aw_lex [] ?_
        | (refine isA ?_; refine do_F rfl ?_)
        | (refine isL ?_; refine lex_F rfl (by kernel_rfl) rfl rfl ?_)
        | (refine isLg rfl ?_; refine lex_S rfl (by kernel_rfl) rfl rfl ?_)
        | (refine isAi (x := .tmp 16) ?_; refine do_R rfl (ia_l (t := rnT) (z := z) rfl rfl rfl rfl (Int.natCast_nonneg i) hz) rfl ?_)
        | (refine isLi (x := .tmp 16) rfl ?_; refine lex_R rfl (by kernel_rfl) rfl (ia_l (t := rnT) (z := z) rfl rfl rfl rfl (Int.natCast_nonneg i) hz) rfl ?_)
        | (refine isAc 76 ?_; refine do_R rfl (st_callK (r' := .agg [.sl (1 + i) 0 z.length]) (H' := ⟨93, 1, nC 1 (rs.take i) ++ List.replicate (rs.length - i) nilV, 0⟩ :: nR rwT 75 (rs.take (i + 1))) rfl (c_toRunO z (hok.at hz)) (.cons (.same rfl) .nil) (fun q hq => by simp at hq; subst hq; exact flat_noH _ _) (by simp only [hHl, shV, shVs, Nat.zero_add]) (by rw [take_snoc hz, nR_append]; rfl)) rfl ?_)
        | (refine isLc 76 rfl ?_; refine lex_R rfl (by kernel_rfl) rfl (st_callK (r' := .agg [.sl (1 + i) 0 z.length]) (H' := ⟨93, 1, nC 1 (rs.take i) ++ List.replicate (rs.length - i) nilV, 0⟩ :: nR rwT 75 (rs.take (i + 1))) rfl (c_toRunO z (hok.at hz)) (.cons (.same rfl) .nil) (fun q hq => by simp at hq; subst hq; exact flat_noH _ _) (by simp only [hHl, shV, shVs, Nat.zero_add]) (by rw [take_snoc hz, nR_append]; rfl)) rfl ?_)
        | (refine isAi (x := .tmp 14) ?_; refine do_R rfl (step_ia_sl (j := i) rfl rfl rfl (Nat.zero_le _) rfl rfl (Int.natCast_nonneg i) (by simpa using hlt)) rfl ?_)
        | (refine isLi (x := .tmp 14) rfl ?_; refine lex_R rfl (by kernel_rfl) rfl (step_ia_sl (j := i) rfl rfl rfl (Nat.zero_le _) rfl rfl (Int.natCast_nonneg i) (by simpa using hlt)) rfl ?_)
        | (refine isAs ?_; refine do_R rfl (step_stores (n := 1) rfl rfl rfl rfl (fun c hc => by simp at hc; subst hc; rfl) rfl rfl (by simp [hlen]; omega)) rfl ?_)
        | (refine isLs rfl ?_; refine lex_R rfl (by kernel_rfl) rfl (step_stores (n := 1) rfl rfl rfl rfl (fun c hc => by simp at hc; subst hc; rfl) rfl rfl (by simp [hlen]; omega)) rfl ?_)
        | refine aops_nil ?_
        | refine lex_done _ rfl (by kernel_rfl) ?_
        | refine aw_ct rfl ?_
        | refine aw_cf rfl ?_
        | refine aw_block ?_
        | refine then_n ?_
        | refine aw_skip ?_
        | refine aw_exit ?_
        | refine then_x ?_
        | refine then_r ?_
        | refine block_x ?_
        | refine block_n ?_
        | refine block_r ?_
        | refine aw_ret ?_
      refine ⟨⟨i + 1, hlt⟩, by simp only; omega, ?_⟩
      refine sub_id ?_ (by repeat' first | exact EqS.nil | refine EqS.any ?_ | refine EqS.same rfl ?_ | refine EqS.same (i_succ (by assumption) (by omega)) ?_)
      have e1 : (0 + (i : Int).toNat) * 1 = i := by simp
      show _ = (⟨93, 1, setCells (nC 1 (rs.take i) ++ List.replicate (rs.length - i) nilV) ((0 + (i : Int).toNat) * 1) [.sl (1 + i) 0 z.length], 0⟩ : Reg) :: nR rwT 75 (rs.take (i + 1))
      rw [e1, fillN hlen hlt]
      simp only
      rw [take_snoc hz, nC_append]
      have : 1 + (rs.take i).length = 1 + i := by simp; omega
      rw [this]
      rfl
    · have hge : i = rs.length := by
        have : ¬ ((i : Int) < rs.length) := by simpa using h
        omega
      subst hge
      have hH : HLe ([0] ++ List.range' 1 rs.length) (rnN rs) (⟨93, 1, nC 1 (rs.take rs.length) ++ List.replicate (rs.length - rs.length) nilV, 0⟩ :: nR rwT 75 (rs.take rs.length)) := by
        rw [List.take_length, Nat.sub_self, List.replicate_zero, List.append_nil]
        exact hle_rn0 rs
      repeat' first
        | refine aw_seq ?_
        | refine aw_region ?_
        | refine aw_lex [] ?_
        | (refine isA ?_; refine do_F rfl ?_)
        | (refine isL ?_; refine lex_F rfl (by kernel_rfl) rfl rfl ?_)
        | (refine isLg rfl ?_; refine lex_S rfl (by kernel_rfl) rfl rfl ?_)
        | exact finN _ rfl hH (le_sl rfl rfl) (Or.inl rfl)
        | refine aops_nil ?_
        | refine lex_done _ rfl (by kernel_rfl) ?_
        | refine aw_ct rfl ?_
        | refine aw_cf rfl ?_
        | refine aw_block ?_
        | refine then_n ?_
        | refine aw_skip ?_
        | refine aw_exit ?_
        | refine then_x ?_
        | refine then_r ?_
        | refine block_x ?_
        | refine block_n ?_
        | refine block_r ?_
        | refine aw_ret ?_

/-! ### Marks -/
theorem kk_add (k : Int) (a : Nat) : ∀ b : Nat, kk (kk k a) b = kk k (a + b)
  | 0 => rfl
  | b + 1 => by rw [kk, kk_add k a b]; rfl
theorem tot_snoc {rs : List Rn} {i : Nat} {z : Rn} (hz : rs[i]? = some z) : tot (rs.take (i + 1)) = tot (rs.take i) + z.length := by
  rw [take_snoc hz]
  simp [tot]
theorem tot_le (rs : List Rn) (i : Nat) : tot (rs.take i) ≤ tot rs := by
  have : tot rs = tot (rs.take i ++ rs.drop i) := by rw [List.take_append_drop]
  rw [this]
  simp only [tot, List.map_append, List.sum_append]
  omega
def mkRu : Int → List Rn → List Rn
  | _, [] => []
  | k, x :: xs => mkC k x x.length :: mkRu (kk k (3 * x.length)) xs
theorem mkRu_snoc : ∀ (k : Int) (xs : List Rn) (z : Rn), mkRu k (xs ++ [z]) = mkRu k xs ++ [mkC (kk k (3 * tot xs)) z z.length]
  | k, [], z => by simp [mkRu, tot, kk]
  | k, x :: xs, z => by
    simp only [List.cons_append, mkRu]
    rw [mkRu_snoc _ xs z, kk_add]
    have : 3 * x.length + 3 * tot xs = 3 * tot (x :: xs) := by simp [tot]; omega
    rw [this]
theorem mkRu_map : ∀ (k : Int) (xs : List Rn), (mkRu k xs).map List.length = xs.map List.length
  | _, [] => rfl
  | k, x :: xs => by simp only [mkRu, List.map_cons]; rw [mkRu_map _ xs, mkC_len k (Nat.le_refl _)]
theorem mkRu_len (k : Int) (xs : List Rn) : (mkRu k xs).length = xs.length := by
  have := congrArg List.length (mkRu_map k xs)
  simpa using this
theorem mkRu_tot (k : Int) (xs : List Rn) : tot (mkRu k xs) = tot xs := by rw [tot, mkRu_map]; rfl
theorem nC_lens : ∀ (b : Nat) (xs ys : List Rn), xs.map List.length = ys.map List.length → nC b xs = nC b ys
  | _, [], [], _ => rfl
  | b, x :: xs, y :: ys, h => by
    simp only [List.map_cons, List.cons.injEq] at h
    simp only [nC, h.1, nC_lens (b + 1) xs ys h.2]
  | _, [], y :: ys, h => by simp at h
  | _, x :: xs, [], h => by simp at h
def mid (k : Int) (rs : List Rn) (i : Nat) : List Rn := mkRu k (rs.take i) ++ rs.drop i
theorem mid_map (k : Int) (rs : List Rn) (i : Nat) : (mid k rs i).map List.length = rs.map List.length := by
  rw [mid, List.map_append, mkRu_map, ← List.map_append, List.take_append_drop]
theorem mid_at {k : Int} {rs : List Rn} {i : Nat} {z : Rn} (hz : rs[i]? = some z) : (mid k rs i)[i]? = some z := by
  have hl : (mkRu k (rs.take i)).length = i := by rw [mkRu_len]; have := (List.getElem?_eq_some_iff.1 hz).1; simp; omega
  rw [mid, List.getElem?_append_right (by omega), hl, Nat.sub_self, List.getElem?_drop]
  exact hz
theorem mid_succ {k : Int} {rs : List Rn} {i : Nat} {z : Rn} (hz : rs[i]? = some z) : (mid k rs i).set i (mkC (kk k (3 * tot (rs.take i))) z z.length) = mid k rs (i + 1) := by
  have hl : (mkRu k (rs.take i)).length = i := by rw [mkRu_len]; have := (List.getElem?_eq_some_iff.1 hz).1; simp; omega
  rw [mid, mid, take_snoc hz, mkRu_snoc, List.set_append_right _ _ (by omega), hl, Nat.sub_self, take_drop1 hz, List.set_cons_zero, List.append_assoc]
  rfl
theorem nR_set {rs : List Rn} {i : Nat} {z : Rn} : (nR rwT 75 rs).set i (rwR z) = nR rwT 75 (rs.set i z) := by rw [nR, nR, List.map_set]

theorem c_markRunS (rs : List Rn) (k : Int) (hok : okRn rs) : Meets Go.Proofs.Try.prog 34 [.sl 0 0 rs.length, I k] (rnN rs) (I (kk k (3 * tot rs))) (rnN (mkRu k rs)) true := by
  have hl := hok.1
  have hml : (rnN rs).length = rs.length + 1 := by simp [nR_length]
  refine meets_of [4] Go.Proofs.Try.func34 rfl rfl ?_
  simp only [Go.Proofs.Try.ntmps34, List.length_cons, List.length_nil, Nat.reduceAdd, Nat.reduceSub, List.replicate_succ, List.replicate_zero, List.cons_append, List.nil_append]
  repeat' first
    | refine aw_seq ?_
    | refine aw_region ?_
    | refine aw_lex [] ?_
    | (refine isA ?_; refine do_F rfl ?_)
    | (refine isL ?_; refine lex_F rfl (by kernel_rfl) rfl rfl ?_)
    | (refine isLg rfl ?_; refine lex_S rfl (by kernel_rfl) rfl rfl ?_)
    | refine aops_nil ?_
    | refine lex_done _ rfl (by kernel_rfl) ?_
    | refine aw_ct rfl ?_
    | refine aw_cf rfl ?_
    | refine aw_block ?_
    | refine then_n ?_
    | refine aw_skip ?_
    | refine aw_exit ?_
    | refine then_x ?_
    | refine then_r ?_
    | refine block_x ?_
    | refine block_n ?_
    | refine block_r ?_
    | refine aw_ret ?_
  refine aw_loop (α := { i : Nat // i ≤ rs.length }) (fun i => ⟨[.sl 0 0 rs.length, I (kk k (3 * tot (rs.take i.1))), .any, .any, .any, I i.1, .any, .any, .any, .any, .any, .any, .any, .any, .any, .any, .any, .any, .any, .any], ⟨93, 1, nC 1 rs, 0⟩ :: nR rwT 75 (mid k rs i.1), (rnN rs).length⟩) (fun i => rs.length - i.1) ⟨0, Nat.zero_le _⟩ ?_ ?_
  · exact sub_id rfl (by repeat' first | exact EqS.nil | refine EqS.any ?_ | refine EqS.same rfl ?_)
  · rintro ⟨i, hi⟩
    repeat' first
      | refine aw_seq ?_
      | refine aw_region ?_
      | refine aw_lex [] ?_
      | (refine isA ?_; refine do_F rfl ?_)
      | (refine isL ?_; refine lex_F rfl (by kernel_rfl) rfl rfl ?_)
      | (refine isLg rfl ?_; refine lex_S rfl (by kernel_rfl) rfl rfl ?_)
      | refine aops_nil ?_
      | refine lex_done _ rfl (by kernel_rfl) ?_
      | refine aw_ct rfl ?_
      | refine aw_cf rfl ?_
      | refine aw_block ?_
      | refine then_n ?_
      | refine aw_skip ?_
      | refine aw_exit ?_
      | refine then_x ?_
      | refine then_r ?_
      | refine block_x ?_
      | refine block_n ?_
      | refine block_r ?_
      | refine aw_ret ?_
    refine aw_cond rfl (fun h => ?_) (fun h => ?_)
    · have hlt : i < rs.length := by simpa using h
      obtain ⟨z, hz⟩ : ∃ z, rs[i]? = some z := ⟨_, List.getElem?_eq_getElem hlt⟩
      have hrow : ((⟨93, 1, nC 1 rs, 0⟩ : Reg) :: nR rwT 75 (mid k rs i))[1 + i]? = some (rwR z) := by rw [Nat.add_comm]; exact nR_at (mid_at hz)
      repeat' first
        | refine aw_seq ?_
        | refine aw_region ?_
        | refine aw_lex [] ?_
        | (refine isA ?_; refine do_F rfl ?_)
        | (refine isL ?_; refine lex_F rfl (by kernel_rfl) rfl rfl ?_)
        | (refine isLg rfl ?_; refine lex_S rfl (by kernel_rfl) rfl rfl ?_)
        | (refine isAi ?_; refine do_R rfl (step_ia_sl (j := i) rfl rfl rfl (Nat.zero_le _) rfl rfl (Int.natCast_nonneg i) (by simpa using hlt)) rfl ?_)
        | (refine isLi rfl ?_; refine lex_R rfl (by kernel_rfl) rfl (step_ia_sl (j := i) rfl rfl rfl (Nat.zero_le _) rfl rfl (Int.natCast_nonneg i) (by simpa using hlt)) rfl ?_)
        | (refine isAl ?_; refine do_R rfl (step_load_ptr (c := .sl (1 + i) 0 z.length) rfl rfl rfl (Nat.zero_le _) (by simp [nC_at hz])) rfl ?_)
        | (refine isLl rfl ?_; refine lex_R rfl (by kernel_rfl) rfl (step_load_ptr (c := .sl (1 + i) 0 z.length) rfl rfl rfl (Nat.zero_le _) (by simp [nC_at hz])) rfl ?_)
        | (refine isAc 27 ?_; refine do_R rfl (st_callMs (K := []) (Rs' := [rwR _]) (H' := ⟨93, 1, nC 1 rs, 0⟩ :: nR rwT 75 (mid k rs (i + 1))) [1 + i] (by simp) rfl (c_markRowS z (kk k (3 * tot (rs.take i))) (hok.at hz)) (.cons hrow rfl rfl (flat_noH _ _) (flat_noH _ _) .nil) (.cons (.sl rfl) (.cons (.same rfl) .nil)) (fun q hq => by cases hq) rfl (by simp only [setAll, List.append_nil]; rw [Nat.add_comm 1 i, List.set_cons_succ, nR_set, mid_succ hz])) rfl ?_)
        | (refine isLc 27 rfl ?_; refine lex_R rfl (by kernel_rfl) rfl (st_callMs (K := []) (Rs' := [rwR _]) (H' := ⟨93, 1, nC 1 rs, 0⟩ :: nR rwT 75 (mid k rs (i + 1))) [1 + i] (by simp) rfl (c_markRowS z (kk k (3 * tot (rs.take i))) (hok.at hz)) (.cons hrow rfl rfl (flat_noH _ _) (flat_noH _ _) .nil) (.cons (.sl rfl) (.cons (.same rfl) .nil)) (fun q hq => by cases hq) rfl (by simp only [setAll, List.append_nil]; rw [Nat.add_comm 1 i, List.set_cons_succ, nR_set, mid_succ hz])) rfl ?_)
        | refine aops_nil ?_
        | refine lex_done _ rfl (by kernel_rfl) ?_
        | refine aw_ct rfl ?_
        | refine aw_cf rfl ?_
        | refine aw_block ?_
        | refine then_n ?_
        | refine aw_skip ?_
        | refine aw_exit ?_
        | refine then_x ?_
        | refine then_r ?_
        | refine block_x ?_
        | refine block_n ?_
        | refine block_r ?_
        | refine aw_ret ?_
      refine ⟨⟨i + 1, hlt⟩, by simp only; omega, ?_⟩
      exact sub_id rfl (by repeat' first | exact EqS.nil | refine EqS.any ?_ | refine EqS.same rfl ?_ | refine EqS.same (i_succ (by assumption) (by omega)) ?_ | refine EqS.same (congrArg I (by rw [kk_add, tot_snoc hz, Nat.mul_add])) ?_)
    · have hge : i = rs.length := by
        have : ¬ ((i : Int) < rs.length) := by simpa using h
        omega
      subst hge
      have e : mid k rs rs.length = mkRu k rs := by simp [mid]
      have e2 : nC 1 rs = nC 1 (mkRu k rs) := nC_lens 1 _ _ (mkRu_map k rs).symm
      have hH : HLe ([0] ++ List.range' 1 (mkRu k rs).length) (rnN (mkRu k rs)) (⟨93, 1, nC 1 rs, 0⟩ :: nR rwT 75 (mid k rs rs.length)) := by
        rw [e, e2]
        exact hle_rn0 (mkRu k rs)
      repeat' first
        | refine aw_seq ?_
        | refine aw_region ?_
        | refine aw_lex [] ?_
        | (refine isA ?_; refine do_F rfl ?_)
        | (refine isL ?_; refine lex_F rfl (by kernel_rfl) rfl rfl ?_)
        | (refine isLg rfl ?_; refine lex_S rfl (by kernel_rfl) rfl rfl ?_)
        | exact finNm _ _ (by rw [hml, ← mkRu_len k rs]; exact fixR _) rfl hH (le_k (congrArg _ (by rw [List.take_length]))) (Or.inl rfl)
        | refine aops_nil ?_
        | refine lex_done _ rfl (by kernel_rfl) ?_
        | refine aw_ct rfl ?_
        | refine aw_cf rfl ?_
        | refine aw_block ?_
        | refine then_n ?_
        | refine aw_skip ?_
        | refine aw_exit ?_
        | refine then_x ?_
        | refine then_r ?_
        | refine block_x ?_
        | refine block_n ?_
        | refine block_r ?_
        | refine aw_ret ?_

/-! ### Marks held -/
theorem mkRu_at : ∀ {k : Int} {rs : List Rn} {j : Nat} {y : Rn}, (mkRu k rs)[j]? = some y → ∃ x, rs[j]? = some x ∧ y = mkC (kk k (3 * tot (rs.take j))) x x.length
  | k, [], j, y, h => by simp [mkRu] at h
  | k, x :: xs, 0, y, h => by simp [mkRu] at h; exact ⟨x, rfl, by simp [tot, kk, h]⟩
  | k, x :: xs, j + 1, y, h => by
    simp only [mkRu, List.getElem?_cons_succ] at h
    obtain ⟨z, h1, h2⟩ := mkRu_at h
    refine ⟨z, by simpa using h1, ?_⟩
    rw [h2, kk_add]
    congr 1
    have : 3 * x.length + 3 * tot (xs.take j) = 3 * tot ((x :: xs).take (j + 1)) := by simp [tot]; omega
    rw [this]
theorem mkRu_ok {k : Int} {rs : List Rn} (h : okRn rs) : okRn (mkRu k rs) := ⟨by rw [mkRu_len]; exact h.1, fun y hy => by
  obtain ⟨j, hj⟩ := List.getElem?_of_mem hy
  obtain ⟨x, h1, rfl⟩ := mkRu_at hj
  rw [mkC_len _ (Nat.le_refl _)]
  exact h.at h1⟩
theorem tot_take_map {xs ys : List Rn} (h : xs.map List.length = ys.map List.length) (j : Nat) : tot (xs.take j) = tot (ys.take j) := by
  rw [tot, tot, List.map_take, List.map_take, h]
theorem kk_neg {k : Int} {n : Nat} (h0 : 0 ≤ k) (h1 : k ≤ 1000000000) (hn : n ≤ 1000000000) : decide (kk k n < 0) = false := by
  rw [kk_val h0 (by omega) (by omega)]
  simp
  omega

theorem c_heldRunS (rs : List Rn) (k : Int) (hok : okRn rs) (k0 : 0 ≤ k) (k1 : k ≤ 1000000000) (ht : tot rs ≤ 100000000) : Meets Go.Proofs.Try.prog 59 [rnL (mkRu k rs), I k] [] (I (kk k (3 * tot rs))) [] false := by
  have hl := hok.1
  have hml := mkRu_len k rs
  refine meets_of [4] Go.Proofs.Try.func59 rfl rfl ?_
  simp only [Go.Proofs.Try.ntmps59, List.length_cons, List.length_nil, Nat.reduceAdd, Nat.reduceSub, List.replicate_succ, List.replicate_zero, List.cons_append, List.nil_append]
  repeat' first
    | refine aw_seq ?_
    | refine aw_region ?_
    | refine aw_lex [] ?_
    | (refine isA ?_; refine do_F rfl ?_)
    | (refine isL ?_; refine lex_F rfl (by kernel_rfl) rfl rfl ?_)
    | (refine isLg rfl ?_; refine lex_S rfl (by kernel_rfl) rfl rfl ?_)
    | refine aops_nil ?_
    | refine lex_done _ rfl (by kernel_rfl) ?_
    | refine aw_ct rfl ?_
    | refine aw_cf rfl ?_
    | refine aw_block ?_
    | refine then_n ?_
    | refine aw_skip ?_
    | refine aw_exit ?_
    | refine then_x ?_
    | refine then_r ?_
    | refine block_x ?_
    | refine block_n ?_
    | refine block_r ?_
    | refine aw_ret ?_
  refine aw_loop (α := { i : Nat // i ≤ rs.length }) (fun i => ⟨[rnL (mkRu k rs), I (kk k (3 * tot (rs.take i.1))), .any, .any, .any, I i.1, .any, .any, .any, .any, .any, .any, .any, .any, .any, .any, .any, .any, .any, .any, .any, .any], [], 0⟩) (fun i => rs.length - i.1) ⟨0, Nat.zero_le _⟩ ?_ ?_
  · exact sub_id rfl (by repeat' first | exact EqS.nil | refine EqS.any ?_ | refine EqS.same rfl ?_)
  · rintro ⟨i, hi⟩
    repeat' first
      | refine aw_seq ?_
      | refine aw_region ?_
      | refine aw_lex [] ?_
      | (refine isA ?_; refine do_F rfl ?_)
      | (refine isL ?_; refine lex_F rfl (by kernel_rfl) rfl rfl ?_)
      | (refine isLg rfl ?_; refine lex_S rfl (by kernel_rfl) rfl rfl ?_)
      | refine aops_nil ?_
      | refine lex_done _ rfl (by kernel_rfl) ?_
      | refine aw_ct rfl ?_
      | refine aw_cf rfl ?_
      | refine aw_block ?_
      | refine then_n ?_
      | refine aw_skip ?_
      | refine aw_exit ?_
      | refine then_x ?_
      | refine then_r ?_
      | refine block_x ?_
      | refine block_n ?_
      | refine block_r ?_
      | refine aw_ret ?_
    refine aw_cond rfl (fun h => ?_) (fun h => ?_)
    · have hlt : i < rs.length := by rw [← hml]; simpa using h
      obtain ⟨y, hy⟩ : ∃ y, (mkRu k rs)[i]? = some y := ⟨_, List.getElem?_eq_getElem (by omega)⟩
      obtain ⟨x, hx, e⟩ := mkRu_at hy
      have hyl : y.length = x.length := by rw [e]; exact mkC_len _ (Nat.le_refl _)
      have hpos : decide (kk (kk k (3 * tot (rs.take i))) (3 * y.length) < 0) = false := by
        rw [kk_add]
        have h1 := tot_le rs (i + 1)
        rw [tot_snoc hx] at h1
        exact kk_neg k0 k1 (by rw [hyl]; omega)
      repeat' first
        | refine aw_seq ?_
        | refine aw_region ?_
        | refine aw_lex [] ?_
        | (refine isA ?_; refine do_F rfl ?_)
        | (refine isL ?_; refine lex_F rfl (by kernel_rfl) rfl rfl ?_)
        | (refine isLg rfl ?_; refine lex_S rfl (by kernel_rfl) rfl rfl ?_)
        | (refine isAi ?_; refine do_R rfl (ia_l (t := rnT) (z := y) rfl rfl rfl rfl (Int.natCast_nonneg i) hy) rfl ?_)
        | (refine isLi rfl ?_; refine lex_R rfl (by kernel_rfl) rfl (ia_l (t := rnT) (z := y) rfl rfl rfl rfl (Int.natCast_nonneg i) hy) rfl ?_)
        | (refine isAc 28 ?_; refine do_R rfl (st_call rfl (c_heldRowS y (kk k (3 * tot (rs.take i))) (by rw [hyl]; exact hok.at hx) (by rw [e]; exact mkC_at)) (.cons (.same rfl) (.cons (.same rfl) .nil)) rfl) rfl ?_)
        | (refine isLc 28 rfl ?_; refine lex_R rfl (by kernel_rfl) rfl (st_call rfl (c_heldRowS y (kk k (3 * tot (rs.take i))) (by rw [hyl]; exact hok.at hx) (by rw [e]; exact mkC_at)) (.cons (.same rfl) (.cons (.same rfl) .nil)) rfl) rfl ?_)
        | refine aops_nil ?_
        | refine lex_done _ rfl (by kernel_rfl) ?_
        | refine aw_ct rfl ?_
        | refine aw_cf rfl ?_
        | refine aw_block ?_
        | refine then_n ?_
        | refine aw_skip ?_
        | refine aw_exit ?_
        | refine then_x ?_
        | refine then_r ?_
        | refine block_x ?_
        | refine block_n ?_
        | refine block_r ?_
        | refine aw_ret ?_
      refine aw_cond rfl (fun h => by rw [hpos] at h; cases h) (fun _ => ?_)
      repeat' first
        | refine aw_seq ?_
        | refine aw_region ?_
        | refine aw_lex [] ?_
        | (refine isA ?_; refine do_F rfl ?_)
        | (refine isL ?_; refine lex_F rfl (by kernel_rfl) rfl rfl ?_)
        | (refine isLg rfl ?_; refine lex_S rfl (by kernel_rfl) rfl rfl ?_)
        | refine aops_nil ?_
        | refine lex_done _ rfl (by kernel_rfl) ?_
        | refine aw_ct rfl ?_
        | refine aw_cf rfl ?_
        | refine aw_block ?_
        | refine then_n ?_
        | refine aw_skip ?_
        | refine aw_exit ?_
        | refine then_x ?_
        | refine then_r ?_
        | refine block_x ?_
        | refine block_n ?_
        | refine block_r ?_
        | refine aw_ret ?_
      refine ⟨⟨i + 1, hlt⟩, by simp only; omega, ?_⟩
      exact sub_id rfl (by repeat' first | exact EqS.nil | refine EqS.any ?_ | refine EqS.same rfl ?_ | refine EqS.same (i_succ (by assumption) (by omega)) ?_ | refine EqS.same (congrArg I (by rw [kk_add, tot_snoc hx, Nat.mul_add, hyl])) ?_)
    · have hge : i = rs.length := by
        have : ¬ ((i : Int) < (mkRu k rs).length) := by simpa using h
        omega
      subst hge
      repeat' first
        | refine aw_seq ?_
        | refine aw_region ?_
        | refine aw_lex [] ?_
        | (refine isA ?_; refine do_F rfl ?_)
        | (refine isL ?_; refine lex_F rfl (by kernel_rfl) rfl rfl ?_)
        | (refine isLg rfl ?_; refine lex_S rfl (by kernel_rfl) rfl rfl ?_)
        | exact fin1 rfl rfl (congrArg I (by rw [List.take_length]))
        | refine aops_nil ?_
        | refine lex_done _ rfl (by kernel_rfl) ?_
        | refine aw_ct rfl ?_
        | refine aw_cf rfl ?_
        | refine aw_block ?_
        | refine then_n ?_
        | refine aw_skip ?_
        | refine aw_exit ?_
        | refine then_x ?_
        | refine then_r ?_
        | refine block_x ?_
        | refine block_n ?_
        | refine block_r ?_
        | refine aw_ret ?_

/-! ### Comparison -/
theorem c_eqRun1 (x : Rn) (hl : x.length ≤ 1000000000) : Meets Go.Proofs.Try.prog 77 [.agg [rwL x], .agg [rwL x]] [] (B true) [] false := by
  refine meets_of [4] Go.Proofs.Try.func77 rfl rfl ?_
  simp only [Go.Proofs.Try.ntmps77, List.length_cons, List.length_nil, Nat.reduceAdd, Nat.reduceSub, List.replicate_succ, List.replicate_zero, List.cons_append, List.nil_append]
  repeat' first
    | refine aw_seq ?_
    | refine aw_region ?_
    | refine aw_lex [] ?_
    | (refine isA ?_; refine do_F rfl ?_)
    | (refine isL ?_; refine lex_F rfl (by kernel_rfl) rfl rfl ?_)
    | (refine isLg rfl ?_; refine lex_S rfl (by kernel_rfl) rfl rfl ?_)
    | (refine isAc 19 ?_; refine do_R rfl (st_call rfl (c_eqRowS x hl) (.cons (.same rfl) (.cons (.same rfl) .nil)) rfl) rfl ?_)
    | (refine isLc 19 rfl ?_; refine lex_R rfl (by kernel_rfl) rfl (st_call rfl (c_eqRowS x hl) (.cons (.same rfl) (.cons (.same rfl) .nil)) rfl) rfl ?_)
    | exact fin1 rfl rfl rfl
    | refine aops_nil ?_
    | refine lex_done _ rfl (by kernel_rfl) ?_
    | refine aw_ct rfl ?_
    | refine aw_cf rfl ?_
    | refine aw_block ?_
    | refine then_n ?_
    | refine aw_skip ?_
    | refine aw_exit ?_
    | refine then_x ?_
    | refine then_r ?_
    | refine block_x ?_
    | refine block_n ?_
    | refine block_r ?_
    | refine aw_ret ?_
theorem c_eqRunS (rs : List Rn) (hok : okRn rs) : Meets Go.Proofs.Try.prog 33 [rnL rs, rnL rs] [] (B true) [] false := by
  have hl := hok.1
  refine meets_of [4] Go.Proofs.Try.func33 rfl rfl ?_
  simp only [Go.Proofs.Try.ntmps33, List.length_cons, List.length_nil, Nat.reduceAdd, Nat.reduceSub, List.replicate_succ, List.replicate_zero, List.cons_append, List.nil_append]
  repeat' first
    | refine aw_seq ?_
    | refine aw_region ?_
    | refine aw_lex [] ?_
    | (refine isA ?_; refine do_F rfl ?_)
    | (refine isL ?_; refine lex_F rfl (by kernel_rfl) rfl rfl ?_)
    | (refine isLg rfl ?_; refine lex_S rfl (by kernel_rfl) rfl rfl ?_)
    | refine aops_nil ?_
    | refine lex_done _ rfl (by kernel_rfl) ?_
    | refine aw_ct rfl ?_
    | refine aw_cf rfl ?_
    | refine aw_block ?_
    | refine then_n ?_
    | refine aw_skip ?_
    | refine aw_exit ?_
    | refine then_x ?_
    | refine then_r ?_
    | refine block_x ?_
    | refine block_n ?_
    | refine block_r ?_
    | refine aw_ret ?_
  refine aw_cond rfl (fun h => by simp at h) (fun _ => ?_)
  repeat' first
    | refine aw_seq ?_
    | refine aw_region ?_
    | refine aw_lex [] ?_
    | (refine isA ?_; refine do_F rfl ?_)
    | (refine isL ?_; refine lex_F rfl (by kernel_rfl) rfl rfl ?_)
    | (refine isLg rfl ?_; refine lex_S rfl (by kernel_rfl) rfl rfl ?_)
    | refine aops_nil ?_
    | refine lex_done _ rfl (by kernel_rfl) ?_
    | refine aw_ct rfl ?_
    | refine aw_cf rfl ?_
    | refine aw_block ?_
    | refine then_n ?_
    | refine aw_skip ?_
    | refine aw_exit ?_
    | refine then_x ?_
    | refine then_r ?_
    | refine block_x ?_
    | refine block_n ?_
    | refine block_r ?_
    | refine aw_ret ?_
  refine aw_loop (α := { i : Nat // i ≤ rs.length }) (fun i => ⟨[rnL rs, rnL rs, .any, .any, .any, I i.1, .any, .any, .any, .any, .any, .any, .any, .any, .any, .any, .any, .any, .any, .any, .any, .any, .any, .any, .any, .any, .any], [], 0⟩) (fun i => rs.length - i.1) ⟨0, Nat.zero_le _⟩ ?_ ?_
  · exact sub_id rfl (by repeat' first | exact EqS.nil | refine EqS.any ?_ | refine EqS.same rfl ?_)
  · rintro ⟨i, hi⟩
    repeat' first
      | refine aw_seq ?_
      | refine aw_region ?_
      | refine aw_lex [] ?_
      | (refine isA ?_; refine do_F rfl ?_)
      | (refine isL ?_; refine lex_F rfl (by kernel_rfl) rfl rfl ?_)
      | (refine isLg rfl ?_; refine lex_S rfl (by kernel_rfl) rfl rfl ?_)
      | refine aops_nil ?_
      | refine lex_done _ rfl (by kernel_rfl) ?_
      | refine aw_ct rfl ?_
      | refine aw_cf rfl ?_
      | refine aw_block ?_
      | refine then_n ?_
      | refine aw_skip ?_
      | refine aw_exit ?_
      | refine then_x ?_
      | refine then_r ?_
      | refine block_x ?_
      | refine block_n ?_
      | refine block_r ?_
      | refine aw_ret ?_
    refine aw_cond rfl (fun h => ?_) (fun h => ?_)
    · have hlt : i < rs.length := by simpa using h
      obtain ⟨z, hz⟩ : ∃ z, rs[i]? = some z := ⟨_, List.getElem?_eq_getElem hlt⟩
      repeat' first
        | refine aw_seq ?_
        | refine aw_region ?_
        | refine aw_lex [] ?_
        | (refine isA ?_; refine do_F rfl ?_)
        | (refine isL ?_; refine lex_F rfl (by kernel_rfl) rfl rfl ?_)
        | (refine isLg rfl ?_; refine lex_S rfl (by kernel_rfl) rfl rfl ?_)
        | (refine isAi ?_; refine do_R rfl (ia_l (t := rnT) (z := z) rfl rfl rfl rfl (Int.natCast_nonneg i) hz) rfl ?_)
        | (refine isLi rfl ?_; refine lex_R rfl (by kernel_rfl) rfl (ia_l (t := rnT) (z := z) rfl rfl rfl rfl (Int.natCast_nonneg i) hz) rfl ?_)
        | (refine isAc 77 ?_; refine do_R rfl (st_call rfl (c_eqRun1 z (hok.at hz)) (.cons (.same rfl) (.cons (.same rfl) .nil)) rfl) rfl ?_)
        | (refine isLc 77 rfl ?_; refine lex_R rfl (by kernel_rfl) rfl (st_call rfl (c_eqRun1 z (hok.at hz)) (.cons (.same rfl) (.cons (.same rfl) .nil)) rfl) rfl ?_)
        | refine aops_nil ?_
        | refine lex_done _ rfl (by kernel_rfl) ?_
        | refine aw_ct rfl ?_
        | refine aw_cf rfl ?_
        | refine aw_block ?_
        | refine then_n ?_
        | refine aw_skip ?_
        | refine aw_exit ?_
        | refine then_x ?_
        | refine then_r ?_
        | refine block_x ?_
        | refine block_n ?_
        | refine block_r ?_
        | refine aw_ret ?_
      refine ⟨⟨i + 1, hlt⟩, by simp only; omega, ?_⟩
      exact sub_id rfl (by repeat' first | exact EqS.nil | refine EqS.any ?_ | refine EqS.same rfl ?_ | refine EqS.same (i_succ (by assumption) (by omega)) ?_)
    · repeat' first
        | refine aw_seq ?_
        | refine aw_region ?_
        | refine aw_lex [] ?_
        | (refine isA ?_; refine do_F rfl ?_)
        | (refine isL ?_; refine lex_F rfl (by kernel_rfl) rfl rfl ?_)
        | (refine isLg rfl ?_; refine lex_S rfl (by kernel_rfl) rfl rfl ?_)
        | exact fin1 rfl rfl rfl
        | refine aops_nil ?_
        | refine lex_done _ rfl (by kernel_rfl) ?_
        | refine aw_ct rfl ?_
        | refine aw_cf rfl ?_
        | refine aw_block ?_
        | refine then_n ?_
        | refine aw_skip ?_
        | refine aw_exit ?_
        | refine then_x ?_
        | refine then_r ?_
        | refine block_x ?_
        | refine block_n ?_
        | refine block_r ?_
        | refine aw_ret ?_
end Go.Proofs.Ytngeppmincgebaa.Ab
