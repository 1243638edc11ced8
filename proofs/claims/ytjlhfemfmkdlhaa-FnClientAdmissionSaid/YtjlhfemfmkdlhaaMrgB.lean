/- Texts BrkF, BrkG, BrkH, BrkI in one. -/
import Derived.Test.YtjlhfemfmkdlhaaMrgA
import Derived.Test.YtjlhfemfmkdlhaaAbS
import Derived.Test.YtjlhfemfmkdlhaaAbU
set_option linter.unusedVariables false
set_option linter.unusedSimpArgs false
set_option maxRecDepth 20000
set_option maxHeartbeats 4000000
/- BrkF -/
namespace Go.Proofs.Ytjlhfemfmkdlhaa.Ab
open Go.RowKit

def intT : Ty Int := ⟨1, fun n => [I n], fun _ => rfl, by decide, fun r c hc => by
  simp only [List.mem_cons, List.not_mem_nil, or_false] at hc
  subst hc
  exact ⟨rfl, rfl⟩⟩

def frI (pool : Int) : Nat → Int
  | 0 => pool
  | i + 1 => IntKind.i64.wrap (frI pool i - 8)
def moreG (c : Cl) (f : Int) : Int := if IntKind.i64.wrap (c.b - 8) < f then IntKind.i64.wrap (c.b - 8) else f
def stepG (c : Cl) (p : Int) (k : Nat) (s : List Int × Int) : List Int × Int :=
  if c.c = p then (s.1.set k (IntKind.i64.wrap ((s.1[k]?).getD 0 + moreG c s.2)), IntKind.i64.wrap (s.2 - moreG c s.2)) else s
def innerG (xs : List Cl) (p : Int) (s : List Int × Int) : Nat → List Int × Int
  | 0 => s
  | k + 1 => match xs[k]? with
    | some c => stepG c p k (innerG xs p s k)
    | none => innerG xs p s k
def outerG (xs : List Cl) (s : List Int × Int) : Nat → List Int × Int
  | 0 => s
  | j + 1 => innerG xs (9 - j) (outerG xs s j) xs.length
def startG (b : Br) : List Int × Int := (List.replicate b.act.length 8, frI b.pool b.act.length)
def cgV (b : Br) : List Int := (outerG b.act (startG b) 10).1
def cg (b : Br) : List Int := cond (validB b) (cgV b) []

theorem stepG_len (c : Cl) (p : Int) (k : Nat) (s : List Int × Int) : (stepG c p k s).1.length = s.1.length := by
  unfold stepG
  split <;> simp
theorem innerG_len (xs : List Cl) (p : Int) (s : List Int × Int) : ∀ k, (innerG xs p s k).1.length = s.1.length
  | 0 => rfl
  | k + 1 => by
    rw [innerG]
    split
    · rw [stepG_len, innerG_len xs p s k]
    · exact innerG_len xs p s k
theorem outerG_len (xs : List Cl) (s : List Int × Int) : ∀ j, (outerG xs s j).1.length = s.1.length
  | 0 => rfl
  | j + 1 => by rw [outerG, innerG_len, outerG_len xs s j]
theorem innerG_at {xs : List Cl} {p : Int} {s : List Int × Int} {k : Nat} {z : Cl} (hz : xs[k]? = some z) : innerG xs p s (k + 1) = stepG z p k (innerG xs p s k) := by
  rw [innerG, hz]
theorem stepG_no {c : Cl} {p : Int} {k : Nat} {s : List Int × Int} (h : ¬ c.c = p) : stepG c p k s = s := by rw [stepG, if_neg h]
theorem cgV_len (b : Br) : (cgV b).length = b.act.length := by rw [cgV, outerG_len, startG]; simp

theorem le_p {ψ : List Nat} {j : Nat} (h : j < 10) : Le ψ (I (9 - ((j + 1 : Nat) : Int))) (I (IntKind.i64.wrap (9 - (j : Int) - 1))) := le_k (congrArg _ (by rw [IntKind.wrap_i64]; omega))

theorem c_scg (b : Br) (h1 : b.act.length ≤ 1000000000) (h2 : b.wait.length ≤ 1000000000) : Meets Go.Proofs.Try.prog 30 [.agg (brE b)] [] (lstOf intT (cg b)) [] true := by
  refine meets_of [2] Go.Proofs.Try.func30 rfl rfl ?_
  simp only [Go.Proofs.Try.ntmps30, List.length_cons, List.length_nil, Nat.reduceAdd, Nat.reduceSub, List.replicate_succ, List.replicate_zero, List.cons_append, List.nil_append]
  repeat' first
    | refine aw_seq ?_
    | refine aw_region ?_
    | refine aw_lex [] ?_
    | (refine isA ?_; refine do_F rfl ?_)
    | (refine isL ?_; refine lex_F rfl (by kernel_rfl) rfl rfl ?_)
    | (refine isLg rfl ?_; refine lex_S rfl (by kernel_rfl) rfl rfl ?_)
    | (refine isAc 24 ?_; refine do_R rfl (st_call rfl (c_svalid _ h1 h2) (.cons (.same rfl) .nil) rfl) rfl ?_)
    | (refine isLc 24 rfl ?_; refine lex_R rfl (by kernel_rfl) rfl (st_call rfl (c_svalid _ h1 h2) (.cons (.same rfl) .nil) rfl) rfl ?_)
    | refine aops_nil ?_
    | refine lex_done _ rfl (by kernel_rfl) ?_
    | refine aw_ct rfl ?_
    | refine aw_cf rfl ?_
    | refine aw_block ?_
    | refine then_n ?_
    | refine aw_skip ?_
    | refine aw_exit ?_
    | refine then_x ?_
    | refine then_r ?_
    | refine block_x ?_
    | refine block_n ?_
    | refine block_r ?_
    | refine aw_ret ?_
  refine aw_cond rfl (fun hv => ?_) (fun hv => ?_)
  · have hv : validB b = false := by simpa using hv
    repeat' first
      | refine aw_seq ?_
      | refine aw_region ?_
      | refine aw_lex [] ?_
      | (refine isA ?_; refine do_F rfl ?_)
      | (refine isL ?_; refine lex_F rfl (by kernel_rfl) rfl rfl ?_)
      | (refine isLg rfl ?_; refine lex_S rfl (by kernel_rfl) rfl rfl ?_)
      | exact finP rfl (by rw [cg, hv]; exact pur_L rfl rfl rfl rfl)
      | refine aops_nil ?_
      | refine lex_done _ rfl (by kernel_rfl) ?_
      | refine aw_ct rfl ?_
      | refine aw_cf rfl ?_
      | refine aw_block ?_
      | refine then_n ?_
      | refine aw_skip ?_
      | refine aw_exit ?_
      | refine then_x ?_
      | refine then_r ?_
      | refine block_x ?_
      | refine block_n ?_
      | refine block_r ?_
      | refine aw_ret ?_
  · have hv : validB b = true := by simpa using hv
    repeat' first
      | refine aw_seq ?_
      | refine aw_region ?_
      | refine aw_lex [] ?_
      | (refine isA ?_; refine do_F rfl ?_)
      | (refine isL ?_; refine lex_F rfl (by kernel_rfl) rfl rfl ?_)
      | (refine isLg rfl ?_; refine lex_S rfl (by kernel_rfl) rfl rfl ?_)
      | refine aops_nil ?_
      | refine lex_done _ rfl (by kernel_rfl) ?_
      | refine aw_ct rfl ?_
      | refine aw_cf rfl ?_
      | refine aw_block ?_
      | refine then_n ?_
      | refine aw_skip ?_
      | refine aw_exit ?_
      | refine then_x ?_
      | refine then_r ?_
      | refine block_x ?_
      | refine block_n ?_
      | refine block_r ?_
      | refine aw_ret ?_
    refine aw_loop (α := { i : Nat // i ≤ b.act.length }) (fun i => ⟨[.any, .ptr 0 0, .any, .sl 1 0 (List.replicate i.1 (8 : Int)).length, I (frI b.pool i.1), I i.1, .any, .any, .any, .any, .any, .any, .any, .any, .any, .any, .any, .any, .any, .any, .any, .any, .any, .any, .any, .any, .any, .any, .any, .any, .any, .any, .any, .any, .any, .any, .any, .any, .any, .any, .any, .any, .any, .any, .any, .any, .any, .any, .any, .any, .any, .any, .any, .any, .any, .any, .any, .any, .any, .any, .any, .any, .any, .any, .any, .any, .any, .any, .any], [⟨24, 4, brE b, 0⟩, regOf intT 3 (List.replicate i.1 (8 : Int))], 0⟩) (fun i => b.act.length - i.1) ⟨0, Nat.zero_le _⟩ ?_ ?_
    · exact sub0 [0, 1] rfl rfl (by decide) (by repeat' first | exact HLes.nil | refine HLes.cons rfl rfl rfl rfl ?_ ?_ | exact les_nil | refine les_cons ?_ ?_ | exact le_any | exact le_refl rfl | exact le_sl rfl rfl | exact le_ptr rfl) (by repeat' first | exact les_nil | refine les_cons ?_ ?_ | exact le_any | exact le_refl rfl | exact le_sl rfl rfl | exact le_ptr rfl)
    · rintro ⟨i, hi⟩
      repeat' first
        | refine aw_seq ?_
        | refine aw_region ?_
        | refine aw_lex [] ?_
        | (refine isA ?_; refine do_F rfl ?_)
        | (refine isL ?_; refine lex_F rfl (by kernel_rfl) rfl rfl ?_)
        | (refine isLg rfl ?_; refine lex_S rfl (by kernel_rfl) rfl rfl ?_)
        | refine aops_nil ?_
        | refine lex_done _ rfl (by kernel_rfl) ?_
        | refine aw_ct rfl ?_
        | refine aw_cf rfl ?_
        | refine aw_block ?_
        | refine then_n ?_
        | refine aw_skip ?_
        | refine aw_exit ?_
        | refine then_x ?_
        | refine then_r ?_
        | refine block_x ?_
        | refine block_n ?_
        | refine block_r ?_
        | refine aw_ret ?_
      refine aw_cond rfl (fun h => ?_) (fun h => ?_)
      · have hlt : i < b.act.length := by simpa using h
        repeat' first
          | refine aw_seq ?_
          | refine aw_region ?_
          | refine aw_lex [] ?_
          | (refine isA ?_; refine do_F rfl ?_)
          | (refine isL ?_; refine lex_F rfl (by kernel_rfl) rfl rfl ?_)
          | (refine isLg rfl ?_; refine lex_S rfl (by kernel_rfl) rfl rfl ?_)
          | (refine isAp ?_; refine do_R rfl (ap_l (t := intT) (xs := List.replicate i (8 : Int)) (ys := [8]) rfl rfl rfl rfl (src_of rfl rfl rfl rfl) (by simp; omega) rfl) rfl ?_)
          | (refine isLp rfl ?_; refine lex_R rfl (by kernel_rfl) rfl (ap_l (t := intT) (xs := List.replicate i (8 : Int)) (ys := [8]) rfl rfl rfl rfl (src_of rfl rfl rfl rfl) (by simp; omega) rfl) rfl ?_)
          | refine aops_nil ?_
          | refine lex_done _ rfl (by kernel_rfl) ?_
          | refine aw_ct rfl ?_
          | refine aw_cf rfl ?_
          | refine aw_block ?_
          | refine then_n ?_
          | refine aw_skip ?_
          | refine aw_exit ?_
          | refine then_x ?_
          | refine then_r ?_
          | refine block_x ?_
          | refine block_n ?_
          | refine block_r ?_
          | refine aw_ret ?_
        refine ⟨⟨i + 1, hlt⟩, by simp only; omega, ?_⟩
        exact sub0 [0, 3] rfl rfl (by decide) (.cons rfl rfl rfl rfl (les_refl' rfl) (.cons rfl rfl rfl rfl (les_eq (by rw [List.replicate_succ']) (flat_noH _ _)) .nil)) (by
          repeat' first
            | exact les_nil
            | refine les_cons ?_ ?_
            | exact le_any
            | exact le_refl rfl
            | exact le_ptr rfl
            | exact le_i hlt (by omega)
            | exact le_sl rfl (by rw [List.replicate_succ']))
      · have hge : i = b.act.length := by
          have : ¬ ((i : Int) < b.act.length) := by simpa using h
          omega
        subst hge
        repeat' first
          | refine aw_seq ?_
          | refine aw_region ?_
          | refine aw_lex [] ?_
          | (refine isA ?_; refine do_F rfl ?_)
          | (refine isL ?_; refine lex_F rfl (by kernel_rfl) rfl rfl ?_)
          | (refine isLg rfl ?_; refine lex_S rfl (by kernel_rfl) rfl rfl ?_)
          | refine aops_nil ?_
          | refine lex_done _ rfl (by kernel_rfl) ?_
          | refine aw_ct rfl ?_
          | refine aw_cf rfl ?_
          | refine aw_block ?_
          | refine then_n ?_
          | refine aw_skip ?_
          | refine aw_exit ?_
          | refine then_x ?_
          | refine then_r ?_
          | refine block_x ?_
          | refine block_n ?_
          | refine block_r ?_
          | refine aw_ret ?_
        refine aw_loop (α := { j : Nat // j ≤ 10 }) (fun j => ⟨[.any, .ptr 0 0, .any, .sl 1 0 b.act.length, I (outerG b.act (startG b) j.1).2, .any, I (9 - (j.1 : Int)), .any, .any, .any, .any, .any, .any, .any, .any, .any, .any, .any, .any, .any, .any, .any, .any, .any, .any, .any, .any, .any, .any, .any, .any, .any, .any, .any, .any, .any, .any, .any, .any, .any, .any, .any, .any, .any, .any, .any, .any, .any, .any, .any, .any, .any, .any, .any, .any, .any, .any, .any, .any, .any, .any, .any, .any, .any, .any, .any, .any, .any, .any], [⟨24, 4, brE b, 0⟩, regOf intT 3 (outerG b.act (startG b) j.1).1], 0⟩) (fun j => 10 - j.1) ⟨0, Nat.zero_le _⟩ ?_ ?_
        · exact sub0 [0, 1] rfl rfl (by decide) (.cons rfl rfl rfl rfl (les_refl' rfl) (.cons rfl rfl rfl rfl (les_eq rfl (flat_noH _ _)) .nil)) (by
            repeat' first
              | exact les_nil
              | refine les_cons ?_ ?_
              | exact le_any
              | exact le_refl rfl
              | exact le_ptr rfl
              | exact le_sl rfl (by simp))
        · rintro ⟨j, hj⟩
          repeat' first
            | refine aw_seq ?_
            | refine aw_region ?_
            | refine aw_lex [] ?_
            | (refine isA ?_; refine do_F rfl ?_)
            | (refine isL ?_; refine lex_F rfl (by kernel_rfl) rfl rfl ?_)
            | (refine isLg rfl ?_; refine lex_S rfl (by kernel_rfl) rfl rfl ?_)
            | refine aops_nil ?_
            | refine lex_done _ rfl (by kernel_rfl) ?_
            | refine aw_ct rfl ?_
            | refine aw_cf rfl ?_
            | refine aw_block ?_
            | refine then_n ?_
            | refine aw_skip ?_
            | refine aw_exit ?_
            | refine then_x ?_
            | refine then_r ?_
            | refine block_x ?_
            | refine block_n ?_
            | refine block_r ?_
            | refine aw_ret ?_
          refine aw_cond rfl (fun h => ?_) (fun h => ?_)
          · have hlj : j < 10 := by have := of_decide_eq_true h; simp only at this; omega
            repeat' first
              | refine aw_seq ?_
              | refine aw_region ?_
              | refine aw_lex [] ?_
              | (refine isA ?_; refine do_F rfl ?_)
              | (refine isL ?_; refine lex_F rfl (by kernel_rfl) rfl rfl ?_)
              | (refine isLg rfl ?_; refine lex_S rfl (by kernel_rfl) rfl rfl ?_)
              | refine aops_nil ?_
              | refine lex_done _ rfl (by kernel_rfl) ?_
              | refine aw_ct rfl ?_
              | refine aw_cf rfl ?_
              | refine aw_block ?_
              | refine then_n ?_
              | refine aw_skip ?_
              | refine aw_exit ?_
              | refine then_x ?_
              | refine then_r ?_
              | refine block_x ?_
              | refine block_n ?_
              | refine block_r ?_
              | refine aw_ret ?_
            refine aw_loop (α := { k : Nat // k ≤ b.act.length }) (fun k => ⟨[.any, .ptr 0 0, .any, .sl 1 0 b.act.length, I (innerG b.act (9 - (j : Int)) (outerG b.act (startG b) j) k.1).2, .any, I (9 - (j : Int)), I k.1, .any, .any, .any, .any, .any, .any, .any, .any, .any, .any, .any, .any, .any, .any, .any, .any, .any, .any, .any, .any, .any, .any, .any, .any, .any, .any, .any, .any, .any, .any, .any, .any, .any, .any, .any, .any, .any, .any, .any, .any, .any, .any, .any, .any, .any, .any, .any, .any, .any, .any, .any, .any, .any, .any, .any, .any, .any, .any, .any, .any, .any], [⟨24, 4, brE b, 0⟩, regOf intT 3 (innerG b.act (9 - (j : Int)) (outerG b.act (startG b) j) k.1).1], 0⟩) (fun k => b.act.length - k.1) ⟨0, Nat.zero_le _⟩ ?_ ?_
            · exact sub0 [0, 1] rfl rfl (by decide) (.cons rfl rfl rfl rfl (les_refl' rfl) (.cons rfl rfl rfl rfl (les_eq rfl (flat_noH _ _)) .nil)) (by repeat' first | exact les_nil | refine les_cons ?_ ?_ | exact le_any | exact le_refl rfl | exact le_sl rfl rfl | exact le_ptr rfl)
            · rintro ⟨k, hk⟩
              have hgl : (innerG b.act (9 - (j : Int)) (outerG b.act (startG b) j) k).1.length = b.act.length := by rw [innerG_len, outerG_len, startG]; simp
              repeat' first
                | refine aw_seq ?_
                | refine aw_region ?_
                | refine aw_lex [] ?_
                | (refine isA ?_; refine do_F rfl ?_)
                | (refine isL ?_; refine lex_F rfl (by kernel_rfl) rfl rfl ?_)
                | (refine isLg rfl ?_; refine lex_S rfl (by kernel_rfl) rfl rfl ?_)
                | refine aops_nil ?_
                | refine lex_done _ rfl (by kernel_rfl) ?_
                | refine aw_ct rfl ?_
                | refine aw_cf rfl ?_
                | refine aw_block ?_
                | refine then_n ?_
                | refine aw_skip ?_
                | refine aw_exit ?_
                | refine then_x ?_
                | refine then_r ?_
                | refine block_x ?_
                | refine block_n ?_
                | refine block_r ?_
                | refine aw_ret ?_
              refine aw_cond rfl (fun h => ?_) (fun h => ?_)
              · have hlk : k < b.act.length := by simpa using h
                obtain ⟨z, hz⟩ : ∃ z, b.act[k]? = some z := ⟨_, List.getElem?_eq_getElem hlk⟩
                obtain ⟨g, hg⟩ : ∃ g, (innerG b.act (9 - (j : Int)) (outerG b.act (startG b) j) k).1[k]? = some g := ⟨_, List.getElem?_eq_getElem (by rw [hgl]; exact hlk)⟩
                have hg1 : (innerG b.act (9 - (j : Int)) (outerG b.act (startG b) j) k).1[(0 + k) * 1]? = some g := by rw [Nat.zero_add, Nat.mul_one]; exact hg
                repeat' first
                  | refine aw_seq ?_
                  | refine aw_region ?_
                  | refine aw_lex [] ?_
                  | (refine isA ?_; refine do_F rfl ?_)
                  | (refine isL ?_; refine lex_F rfl (by kernel_rfl) rfl rfl ?_)
                  | (refine isLg rfl ?_; refine lex_S rfl (by kernel_rfl) rfl rfl ?_)
                  | (refine isAi (x := .tmp 40) ?_; refine do_R rfl (ia_l (z := z) rfl rfl rfl rfl (Int.natCast_nonneg k) hz) rfl ?_)
                  | (refine isLi (x := .tmp 40) rfl ?_; refine lex_R rfl (by kernel_rfl) rfl (ia_l (z := z) rfl rfl rfl rfl (Int.natCast_nonneg k) hz) rfl ?_)
                  | refine aops_nil ?_
                  | refine lex_done _ rfl (by kernel_rfl) ?_
                  | refine aw_ct rfl ?_
                  | refine aw_cf rfl ?_
                  | refine aw_block ?_
                  | refine then_n ?_
                  | refine aw_skip ?_
                  | refine aw_exit ?_
                  | refine then_x ?_
                  | refine then_r ?_
                  | refine block_x ?_
                  | refine block_n ?_
                  | refine block_r ?_
                  | refine aw_ret ?_
                refine aw_cond rfl (fun he => ?_) (fun he => ?_)
                · have he := of_decide_eq_true he
                  repeat' first
                    | refine aw_seq ?_
                    | refine aw_region ?_
                    | refine aw_lex [] ?_
                    | (refine isA ?_; refine do_F rfl ?_)
                    | (refine isL ?_; refine lex_F rfl (by kernel_rfl) rfl rfl ?_)
                    | (refine isLg rfl ?_; refine lex_S rfl (by kernel_rfl) rfl rfl ?_)
                    | (refine isAi (x := .tmp 49) ?_; refine do_R rfl (ia_l (z := z) rfl rfl rfl rfl (Int.natCast_nonneg k) hz) rfl ?_)
                    | (refine isLi (x := .tmp 49) rfl ?_; refine lex_R rfl (by kernel_rfl) rfl (ia_l (z := z) rfl rfl rfl rfl (Int.natCast_nonneg k) hz) rfl ?_)
                    | (refine isAi (x := .tmp 58) ?_; refine do_R rfl (step_ia_sl (j := k) rfl rfl rfl (Nat.zero_le _) rfl rfl (Int.natCast_nonneg k) (by omega)) rfl ?_)
                    | (refine isLi (x := .tmp 58) rfl ?_; refine lex_R rfl (by kernel_rfl) rfl (step_ia_sl (j := k) rfl rfl rfl (Nat.zero_le _) rfl rfl (Int.natCast_nonneg k) (by omega)) rfl ?_)
                    | (refine isAi (x := .tmp 56) ?_; refine do_R rfl (step_ia_sl (j := k) rfl rfl rfl (Nat.zero_le _) rfl rfl (Int.natCast_nonneg k) (by omega)) rfl ?_)
                    | (refine isLi (x := .tmp 56) rfl ?_; refine lex_R rfl (by kernel_rfl) rfl (step_ia_sl (j := k) rfl rfl rfl (Nat.zero_le _) rfl rfl (Int.natCast_nonneg k) (by omega)) rfl ?_)
                    | (refine isAl (x := .tmp 60) ?_; refine do_R rfl (step_load1 (T := intT) (z := g) rfl rfl rfl rfl hg1 rfl) rfl ?_)
                    | (refine isLl (x := .tmp 60) rfl ?_; refine lex_R rfl (by kernel_rfl) rfl (step_load1 (T := intT) (z := g) rfl rfl rfl rfl hg1 rfl) rfl ?_)
                    | (refine isAs ?_; refine do_R rfl (set_l1 (T := intT) (z := IntKind.i64.wrap (g + moreG z (innerG b.act (9 - (j : Int)) (outerG b.act (startG b) j) k).2)) rfl rfl rfl rfl rfl rfl (Nat.lt_of_lt_of_eq (show (0 + k) * 1 < b.act.length by omega) hgl.symm)) rfl ?_)
                    | (refine isLs rfl ?_; refine lex_R rfl (by kernel_rfl) rfl (set_l1 (T := intT) (z := IntKind.i64.wrap (g + moreG z (innerG b.act (9 - (j : Int)) (outerG b.act (startG b) j) k).2)) rfl rfl rfl rfl rfl rfl (Nat.lt_of_lt_of_eq (show (0 + k) * 1 < b.act.length by omega) hgl.symm)) rfl ?_)
                    | refine aops_nil ?_
                    | refine lex_done _ rfl (by kernel_rfl) ?_
                    | refine aw_ct rfl ?_
                    | refine aw_cf rfl ?_
                    | refine aw_block ?_
                    | refine then_n ?_
                    | refine aw_skip ?_
                    | refine aw_exit ?_
                    | refine then_x ?_
                    | refine then_r ?_
                    | refine block_x ?_
                    | refine block_n ?_
                    | refine block_r ?_
                    | refine aw_ret ?_
                  refine ⟨⟨k + 1, hlk⟩, by simp only; omega, ?_⟩
                  have e := innerG_at (p := 9 - (j : Int)) (s := outerG b.act (startG b) j) hz
                  rw [stepG, if_pos he, hg] at e
                  exact sub0 [0, 1] rfl rfl (by decide) (.cons rfl rfl rfl rfl (les_refl' rfl) (.cons rfl rfl rfl rfl (les_eq (by rw [e, Nat.zero_add]; show (regOf intT 3 (List.set _ (k * 1) _)).cells = _; rw [Nat.mul_one]; rfl) (flat_noH _ _)) .nil)) (by
                    repeat' first
                      | exact les_nil
                      | refine les_cons ?_ ?_
                      | exact le_any
                      | exact le_refl rfl
                      | exact le_ptr rfl
                      | exact le_sl rfl rfl
                      | exact le_i hlk (by omega)
                      | (refine le_k ?_; rw [e]; rfl))
                · have he := of_decide_eq_false he
                  repeat' first
                    | refine aw_seq ?_
                    | refine aw_region ?_
                    | refine aw_lex [] ?_
                    | (refine isA ?_; refine do_F rfl ?_)
                    | (refine isL ?_; refine lex_F rfl (by kernel_rfl) rfl rfl ?_)
                    | (refine isLg rfl ?_; refine lex_S rfl (by kernel_rfl) rfl rfl ?_)
                    | refine aops_nil ?_
                    | refine lex_done _ rfl (by kernel_rfl) ?_
                    | refine aw_ct rfl ?_
                    | refine aw_cf rfl ?_
                    | refine aw_block ?_
                    | refine then_n ?_
                    | refine aw_skip ?_
                    | refine aw_exit ?_
                    | refine then_x ?_
                    | refine then_r ?_
                    | refine block_x ?_
                    | refine block_n ?_
                    | refine block_r ?_
                    | refine aw_ret ?_
                  refine ⟨⟨k + 1, hlk⟩, by simp only; omega, ?_⟩
                  have e := innerG_at (p := 9 - (j : Int)) (s := outerG b.act (startG b) j) hz
                  rw [stepG_no he] at e
                  exact sub0 [0, 1] rfl rfl (by decide) (.cons rfl rfl rfl rfl (les_refl' rfl) (.cons rfl rfl rfl rfl (les_eq (by rw [e]) (flat_noH _ _)) .nil)) (by
                    repeat' first
                      | exact les_nil
                      | refine les_cons ?_ ?_
                      | exact le_any
                      | exact le_refl rfl
                      | exact le_ptr rfl
                      | exact le_sl rfl rfl
                      | exact le_i hlk (by omega)
                      | (refine le_k ?_; rw [e]))
              · have hge : k = b.act.length := by
                  have : ¬ ((k : Int) < b.act.length) := by simpa using h
                  omega
                subst hge
                repeat' first
                  | refine aw_seq ?_
                  | refine aw_region ?_
                  | refine aw_lex [] ?_
                  | (refine isA ?_; refine do_F rfl ?_)
                  | (refine isL ?_; refine lex_F rfl (by kernel_rfl) rfl rfl ?_)
                  | (refine isLg rfl ?_; refine lex_S rfl (by kernel_rfl) rfl rfl ?_)
                  | refine aops_nil ?_
                  | refine lex_done _ rfl (by kernel_rfl) ?_
                  | refine aw_ct rfl ?_
                  | refine aw_cf rfl ?_
                  | refine aw_block ?_
                  | refine then_n ?_
                  | refine aw_skip ?_
                  | refine aw_exit ?_
                  | refine then_x ?_
                  | refine then_r ?_
                  | refine block_x ?_
                  | refine block_n ?_
                  | refine block_r ?_
                  | refine aw_ret ?_
                refine ⟨⟨j + 1, hlj⟩, by simp only; omega, ?_⟩
                exact sub0 [0, 1] rfl rfl (by decide) (.cons rfl rfl rfl rfl (les_refl' rfl) (.cons rfl rfl rfl rfl (les_eq rfl (flat_noH _ _)) .nil)) (by
                  repeat' first
                    | exact les_nil
                    | refine les_cons ?_ ?_
                    | exact le_any
                    | exact le_refl rfl
                    | exact le_ptr rfl
                    | exact le_sl rfl rfl
                    | exact le_p hlj)
          · have hge : j = 10 := by have := of_decide_eq_false h; simp only at this; omega
            subst hge
            repeat' first
              | refine aw_seq ?_
              | refine aw_region ?_
              | refine aw_lex [] ?_
              | (refine isA ?_; refine do_F rfl ?_)
              | (refine isL ?_; refine lex_F rfl (by kernel_rfl) rfl rfl ?_)
              | (refine isLg rfl ?_; refine lex_S rfl (by kernel_rfl) rfl rfl ?_)
              | exact finP rfl (by rw [cg, hv]; exact pur_L rfl rfl rfl (cgV_len b).symm)
              | refine aops_nil ?_
              | refine lex_done _ rfl (by kernel_rfl) ?_
              | refine aw_ct rfl ?_
              | refine aw_cf rfl ?_
              | refine aw_block ?_
              | refine then_n ?_
              | refine aw_skip ?_
              | refine aw_exit ?_
              | refine then_x ?_
              | refine then_r ?_
              | refine block_x ?_
              | refine block_n ?_
              | refine block_r ?_
              | refine aw_ret ?_
end Go.Proofs.Ytjlhfemfmkdlhaa.Ab

/- BrkG -/
namespace Go.Proofs.Ytjlhfemfmkdlhaa.Ab
open Go.RowKit

theorem fill8 {n i : Nat} (h : i < n) : (List.replicate i (8 : Int) ++ List.replicate (n - i) 0).set i 8 = List.replicate (i + 1) 8 ++ List.replicate (n - (i + 1)) 0 := by
  rw [List.set_append_right _ _ (by simp), List.length_replicate, Nat.sub_self, show n - i = (n - (i + 1)) + 1 by omega, List.replicate_succ, List.set_cons_zero, List.replicate_succ' (n := i)]
  simp

theorem c_icg (b : Br) (h1 : b.act.length ≤ 1000000000) (h2 : b.wait.length ≤ 1000000000) : Meets Go.Proofs.Try.prog 31 [.agg (brE b)] [] (lstOf intT (cg b)) [] true := by
  refine meets_of [2] Go.Proofs.Try.func31 rfl rfl ?_
  simp only [Go.Proofs.Try.ntmps31, List.length_cons, List.length_nil, Nat.reduceAdd, Nat.reduceSub, List.replicate_succ, List.replicate_zero, List.cons_append, List.nil_append]
  repeat' first
    | refine aw_seq ?_
    | refine aw_region ?_
    | refine aw_lex [] ?_
    | (refine isA ?_; refine do_F rfl ?_)
    | (refine isL ?_; refine lex_F rfl (by kernel_rfl) rfl rfl ?_)
    | (refine isLg rfl ?_; refine lex_S rfl (by kernel_rfl) rfl rfl ?_)
    | (refine isAc 25 ?_; refine do_R rfl (st_call rfl (c_ivalid _ h1 h2) (.cons (.same rfl) .nil) rfl) rfl ?_)
    | (refine isLc 25 rfl ?_; refine lex_R rfl (by kernel_rfl) rfl (st_call rfl (c_ivalid _ h1 h2) (.cons (.same rfl) .nil) rfl) rfl ?_)
    | refine aops_nil ?_
    | refine lex_done _ rfl (by kernel_rfl) ?_
    | refine aw_ct rfl ?_
    | refine aw_cf rfl ?_
    | refine aw_block ?_
    | refine then_n ?_
    | refine aw_skip ?_
    | refine aw_exit ?_
    | refine then_x ?_
    | refine then_r ?_
    | refine block_x ?_
    | refine block_n ?_
    | refine block_r ?_
    | refine aw_ret ?_
  refine aw_cond rfl (fun hv => ?_) (fun hv => ?_)
  · have hv : validB b = false := by simpa using hv
    repeat' first
      | refine aw_seq ?_
      | refine aw_region ?_
      | refine aw_lex [] ?_
      | (refine isA ?_; refine do_F rfl ?_)
      | (refine isL ?_; refine lex_F rfl (by kernel_rfl) rfl rfl ?_)
      | (refine isLg rfl ?_; refine lex_S rfl (by kernel_rfl) rfl rfl ?_)
      | exact finP rfl (by rw [cg, hv]; exact Pur.nil)
      | refine aops_nil ?_
      | refine lex_done _ rfl (by kernel_rfl) ?_
      | refine aw_ct rfl ?_
      | refine aw_cf rfl ?_
      | refine aw_block ?_
      | refine then_n ?_
      | refine aw_skip ?_
      | refine aw_exit ?_
      | refine then_x ?_
      | refine then_r ?_
      | refine block_x ?_
      | refine block_n ?_
      | refine block_r ?_
      | refine aw_ret ?_
  · have hv : validB b = true := by simpa using hv
    refine aw_skip ?_
    refine then_n ?_
    refine aw_seq ?_
    refine aw_per [3] 8 rfl ?_
    refine per_P 0 rfl (by kernel_rfl) rfl (fun _ => rfl) rfl ?_
    refine per_F 1 rfl (by kernel_rfl) rfl rfl rfl ?_
    refine per_P 2 rfl (by kernel_rfl) rfl (fun _ => rfl) rfl ?_
    refine per_P 4 rfl (by kernel_rfl) rfl (fun _ => rfl) rfl ?_
    refine per_2F 3 5 rfl rfl (by kernel_rfl) (by kernel_rfl) rfl rfl (mk_l intT 0 rfl rfl rfl h1 rfl rfl rfl) rfl rfl rfl rfl ?_ ?_
    · refine per_F 5 rfl (by kernel_rfl) rfl rfl rfl ?_
      refine per_P 6 rfl (by kernel_rfl) rfl (fun _ => rfl) rfl ?_
      refine per_P 7 rfl (by kernel_rfl) rfl (fun _ => rfl) rfl ?_
      refine per_done (by kernel_rfl) ?_
      repeat' first
        | refine aw_seq ?_
        | refine aw_region ?_
        | refine aw_lex [] ?_
        | (refine isA ?_; refine do_F rfl ?_)
        | (refine isL ?_; refine lex_F rfl (by kernel_rfl) rfl rfl ?_)
        | (refine isLg rfl ?_; refine lex_S rfl (by kernel_rfl) rfl rfl ?_)
        | refine aops_nil ?_
        | refine lex_done _ rfl (by kernel_rfl) ?_
        | refine aw_ct rfl ?_
        | refine aw_cf rfl ?_
        | refine aw_block ?_
        | refine then_n ?_
        | refine aw_skip ?_
        | refine aw_exit ?_
        | refine then_x ?_
        | refine then_r ?_
        | refine block_x ?_
        | refine block_n ?_
        | refine block_r ?_
        | refine aw_ret ?_
      refine aw_loop (α := { i : Nat // i ≤ b.act.length }) (fun i => ⟨[.any, .ptr 0 0, .any, .sl 1 0 b.act.length, I (frI b.pool i.1), .any, .any, .any, .any, .any, .any, .any, .any, .any, .any, .any, .any, .any, .any, .any, I b.act.length, I i.1, .any, .any, .any, .any, .any, .any, .any, .any, .any, .any, .any, .any, .any, .any, .any, .any, .any, .any, .any, .any, .any, .any, .any, .any, .any, .any, .any, .any, .any, .any, .any, .any, .any, .any, .any, .any, .any, .any, .any, .any, .any], [⟨24, 4, brE b, 0⟩, regOf intT 3 (List.replicate i.1 (8 : Int) ++ List.replicate (b.act.length - i.1) 0)], 0⟩) (fun i => b.act.length - i.1) ⟨0, Nat.zero_le _⟩ ?_ ?_
      · exact sub0 [0, 1] rfl rfl (by decide) (.cons rfl rfl rfl rfl (les_refl' rfl) (.cons rfl rfl rfl rfl (les_eq rfl (flat_noH _ _)) .nil)) (by repeat' first | exact les_nil | refine les_cons ?_ ?_ | exact le_any | exact le_refl rfl | exact le_sl rfl rfl | exact le_ptr rfl)
      · rintro ⟨i, hi⟩
        repeat' first
          | refine aw_seq ?_
          | refine aw_region ?_
          | refine aw_lex [] ?_
          | (refine isA ?_; refine do_F rfl ?_)
          | (refine isL ?_; refine lex_F rfl (by kernel_rfl) rfl rfl ?_)
          | (refine isLg rfl ?_; refine lex_S rfl (by kernel_rfl) rfl rfl ?_)
          | refine aops_nil ?_
          | refine lex_done _ rfl (by kernel_rfl) ?_
          | refine aw_ct rfl ?_
          | refine aw_cf rfl ?_
          | refine aw_block ?_
          | refine then_n ?_
          | refine aw_skip ?_
          | refine aw_exit ?_
          | refine then_x ?_
          | refine then_r ?_
          | refine block_x ?_
          | refine block_n ?_
          | refine block_r ?_
          | refine aw_ret ?_
        refine aw_cond rfl (fun h => ?_) (fun h => ?_)
        · have hlt : i < b.act.length := by simpa using h
          repeat' first
            | refine aw_seq ?_
            | refine aw_region ?_
            | refine aw_lex [] ?_
            | (refine isA ?_; refine do_F rfl ?_)
            | (refine isL ?_; refine lex_F rfl (by kernel_rfl) rfl rfl ?_)
            | (refine isLg rfl ?_; refine lex_S rfl (by kernel_rfl) rfl rfl ?_)
            | (refine isAi ?_; refine do_R rfl (step_ia_sl (j := i) rfl rfl rfl (Nat.zero_le _) rfl rfl (Int.natCast_nonneg i) (by omega)) rfl ?_)
            | (refine isLi rfl ?_; refine lex_R rfl (by kernel_rfl) rfl (step_ia_sl (j := i) rfl rfl rfl (Nat.zero_le _) rfl rfl (Int.natCast_nonneg i) (by omega)) rfl ?_)
            | (refine isAs ?_; refine do_R rfl (set_l1 (T := intT) (xs := List.replicate i (8 : Int) ++ List.replicate (b.act.length - i) 0) (z := 8) rfl rfl rfl rfl rfl rfl (Nat.lt_of_lt_of_eq (show (0 + i) * 1 < b.act.length by omega) (by simp; omega))) rfl ?_)
            | (refine isLs rfl ?_; refine lex_R rfl (by kernel_rfl) rfl (set_l1 (T := intT) (xs := List.replicate i (8 : Int) ++ List.replicate (b.act.length - i) 0) (z := 8) rfl rfl rfl rfl rfl rfl (Nat.lt_of_lt_of_eq (show (0 + i) * 1 < b.act.length by omega) (by simp; omega))) rfl ?_)
            | refine aops_nil ?_
            | refine lex_done _ rfl (by kernel_rfl) ?_
            | refine aw_ct rfl ?_
            | refine aw_cf rfl ?_
            | refine aw_block ?_
            | refine then_n ?_
            | refine aw_skip ?_
            | refine aw_exit ?_
            | refine then_x ?_
            | refine then_r ?_
            | refine block_x ?_
            | refine block_n ?_
            | refine block_r ?_
            | refine aw_ret ?_
          refine ⟨⟨i + 1, hlt⟩, by simp only; omega, ?_⟩
          exact sub0 [0, 1] rfl rfl (by decide) (.cons rfl rfl rfl rfl (les_refl' rfl) (.cons rfl rfl rfl rfl (les_eq (by rw [Nat.zero_add]; show (regOf intT 3 (List.set _ (i * 1) _)).cells = _; rw [Nat.mul_one]; exact congrArg intT.flat (fill8 hlt)) (flat_noH _ _)) .nil)) (by repeat' first | exact les_nil | refine les_cons ?_ ?_ | exact le_any | exact le_refl rfl | exact le_sl rfl rfl | exact le_ptr rfl | exact le_i (by assumption) (by omega))
        · have hge : i = b.act.length := by
            have : ¬ ((i : Int) < b.act.length) := by simpa using h
            omega
          subst hge
          repeat' first
            | refine aw_seq ?_
            | refine aw_region ?_
            | refine aw_lex [] ?_
            | (refine isA ?_; refine do_F rfl ?_)
            | (refine isL ?_; refine lex_F rfl (by kernel_rfl) rfl rfl ?_)
            | (refine isLg rfl ?_; refine lex_S rfl (by kernel_rfl) rfl rfl ?_)
            | refine aops_nil ?_
            | refine lex_done _ rfl (by kernel_rfl) ?_
            | refine aw_ct rfl ?_
            | refine aw_cf rfl ?_
            | refine aw_block ?_
            | refine then_n ?_
            | refine aw_skip ?_
            | refine aw_exit ?_
            | refine then_x ?_
            | refine then_r ?_
            | refine block_x ?_
            | refine block_n ?_
            | refine block_r ?_
            | refine aw_ret ?_
          refine aw_loop (α := { j : Nat // j ≤ 10 }) (fun j => ⟨[.any, .ptr 0 0, .any, .sl 1 0 b.act.length, I (outerG b.act (startG b) j.1).2, .any, I (9 - (j.1 : Int)), .any, .any, .any, .any, .any, .any, .any, .any, .any, .any, .any, .any, .any, .any, .any, .any, .any, .any, .any, .any, .any, .any, .any, .any, .any, .any, .any, .any, .any, .any, .any, .any, .any, .any, .any, .any, .any, .any, .any, .any, .any, .any, .any, .any, .any, .any, .any, .any, .any, .any, .any, .any, .any, .any, .any, .any], [⟨24, 4, brE b, 0⟩, regOf intT 3 (outerG b.act (startG b) j.1).1], 0⟩) (fun j => 10 - j.1) ⟨0, Nat.zero_le _⟩ ?_ ?_
          · exact sub0 [0, 1] rfl rfl (by decide) (.cons rfl rfl rfl rfl (les_refl' rfl) (.cons rfl rfl rfl rfl (les_eq (by rw [Nat.sub_self]; simp [outerG, startG]) (flat_noH _ _)) .nil)) (by
              repeat' first
                | exact les_nil
                | refine les_cons ?_ ?_
                | exact le_any
                | exact le_refl rfl
                | exact le_ptr rfl
                | exact le_sl rfl (by simp))
          · rintro ⟨j, hj⟩
            repeat' first
              | refine aw_seq ?_
              | refine aw_region ?_
              | refine aw_lex [] ?_
              | (refine isA ?_; refine do_F rfl ?_)
              | (refine isL ?_; refine lex_F rfl (by kernel_rfl) rfl rfl ?_)
              | (refine isLg rfl ?_; refine lex_S rfl (by kernel_rfl) rfl rfl ?_)
              | refine aops_nil ?_
              | refine lex_done _ rfl (by kernel_rfl) ?_
              | refine aw_ct rfl ?_
              | refine aw_cf rfl ?_
              | refine aw_block ?_
              | refine then_n ?_
              | refine aw_skip ?_
              | refine aw_exit ?_
              | refine then_x ?_
              | refine then_r ?_
              | refine block_x ?_
              | refine block_n ?_
              | refine block_r ?_
              | refine aw_ret ?_
            refine aw_cond rfl (fun h => ?_) (fun h => ?_)
            · have hlj : j < 10 := by have := of_decide_eq_true h; simp only at this; omega
              repeat' first
                | refine aw_seq ?_
                | refine aw_region ?_
                | refine aw_lex [] ?_
                | (refine isA ?_; refine do_F rfl ?_)
                | (refine isL ?_; refine lex_F rfl (by kernel_rfl) rfl rfl ?_)
                | (refine isLg rfl ?_; refine lex_S rfl (by kernel_rfl) rfl rfl ?_)
                | refine aops_nil ?_
                | refine lex_done _ rfl (by kernel_rfl) ?_
                | refine aw_ct rfl ?_
                | refine aw_cf rfl ?_
                | refine aw_block ?_
                | refine then_n ?_
                | refine aw_skip ?_
                | refine aw_exit ?_
                | refine then_x ?_
                | refine then_r ?_
                | refine block_x ?_
                | refine block_n ?_
                | refine block_r ?_
                | refine aw_ret ?_
              refine aw_loop (α := { k : Nat // k ≤ b.act.length }) (fun k => ⟨[.any, .ptr 0 0, .any, .sl 1 0 b.act.length, I (innerG b.act (9 - (j : Int)) (outerG b.act (startG b) j) k.1).2, .any, I (9 - (j : Int)), .any, .any, .any, .any, .any, .any, .any, .any, .any, .any, .any, .any, .any, .any, .any, .any, .any, .any, .any, .any, .any, .any, .any, .any, .any, .any, .any, .any, clL b.act, I b.act.length, I k.1, .any, .any, .any, .any, .any, .any, .any, .any, .any, .any, .any, .any, .any, .any, .any, .any, .any, .any, .any, .any, .any, .any, .any, .any, .any], [⟨24, 4, brE b, 0⟩, regOf intT 3 (innerG b.act (9 - (j : Int)) (outerG b.act (startG b) j) k.1).1], 0⟩) (fun k => b.act.length - k.1) ⟨0, Nat.zero_le _⟩ ?_ ?_
              · exact sub0 [0, 1] rfl rfl (by decide) (.cons rfl rfl rfl rfl (les_refl' rfl) (.cons rfl rfl rfl rfl (les_eq rfl (flat_noH _ _)) .nil)) (by repeat' first | exact les_nil | refine les_cons ?_ ?_ | exact le_any | exact le_refl rfl | exact le_sl rfl rfl | exact le_ptr rfl)
              · rintro ⟨k, hk⟩
                have hgl : (innerG b.act (9 - (j : Int)) (outerG b.act (startG b) j) k).1.length = b.act.length := by rw [innerG_len, outerG_len, startG]; simp
                repeat' first
                  | refine aw_seq ?_
                  | refine aw_region ?_
                  | refine aw_lex [] ?_
                  | (refine isA ?_; refine do_F rfl ?_)
                  | (refine isL ?_; refine lex_F rfl (by kernel_rfl) rfl rfl ?_)
                  | (refine isLg rfl ?_; refine lex_S rfl (by kernel_rfl) rfl rfl ?_)
                  | refine aops_nil ?_
                  | refine lex_done _ rfl (by kernel_rfl) ?_
                  | refine aw_ct rfl ?_
                  | refine aw_cf rfl ?_
                  | refine aw_block ?_
                  | refine then_n ?_
                  | refine aw_skip ?_
                  | refine aw_exit ?_
                  | refine then_x ?_
                  | refine then_r ?_
                  | refine block_x ?_
                  | refine block_n ?_
                  | refine block_r ?_
                  | refine aw_ret ?_
                refine aw_cond rfl (fun h => ?_) (fun h => ?_)
                · have hlk : k < b.act.length := by simpa using h
                  obtain ⟨z, hz⟩ : ∃ z, b.act[k]? = some z := ⟨_, List.getElem?_eq_getElem hlk⟩
                  obtain ⟨g, hg⟩ : ∃ g, (innerG b.act (9 - (j : Int)) (outerG b.act (startG b) j) k).1[k]? = some g := ⟨_, List.getElem?_eq_getElem (by rw [hgl]; exact hlk)⟩
                  have hg1 : (innerG b.act (9 - (j : Int)) (outerG b.act (startG b) j) k).1[(0 + k) * 1]? = some g := by rw [Nat.zero_add, Nat.mul_one]; exact hg
                  repeat' first
                    | refine aw_seq ?_
                    | refine aw_region ?_
                    | refine aw_lex [] ?_
                    | (refine isA ?_; refine do_F rfl ?_)
                    | (refine isL ?_; refine lex_F rfl (by kernel_rfl) rfl rfl ?_)
                    | (refine isLg rfl ?_; refine lex_S rfl (by kernel_rfl) rfl rfl ?_)
                    | (refine isAi (x := .tmp 35) ?_; refine do_R rfl (ia_l (z := z) rfl rfl rfl rfl (Int.natCast_nonneg k) hz) rfl ?_)
                    | (refine isLi (x := .tmp 35) rfl ?_; refine lex_R rfl (by kernel_rfl) rfl (ia_l (z := z) rfl rfl rfl rfl (Int.natCast_nonneg k) hz) rfl ?_)
                    | refine aops_nil ?_
                    | refine lex_done _ rfl (by kernel_rfl) ?_
                    | refine aw_ct rfl ?_
                    | refine aw_cf rfl ?_
                    | refine aw_block ?_
                    | refine then_n ?_
                    | refine aw_skip ?_
                    | refine aw_exit ?_
                    | refine then_x ?_
                    | refine then_r ?_
                    | refine block_x ?_
                    | refine block_n ?_
                    | refine block_r ?_
                    | refine aw_ret ?_
                  refine aw_cond rfl (fun he => ?_) (fun he => ?_)
                  · have he := of_decide_eq_true he
                    repeat' first
                      | refine aw_seq ?_
                      | refine aw_region ?_
                      | refine aw_lex [] ?_
                      | (refine isA ?_; refine do_F rfl ?_)
                      | (refine isL ?_; refine lex_F rfl (by kernel_rfl) rfl rfl ?_)
                      | (refine isLg rfl ?_; refine lex_S rfl (by kernel_rfl) rfl rfl ?_)
                      | (refine isAi (x := .tmp 49) ?_; refine do_R rfl (ia_l (z := z) rfl rfl rfl rfl (Int.natCast_nonneg k) hz) rfl ?_)
                      | (refine isLi (x := .tmp 49) rfl ?_; refine lex_R rfl (by kernel_rfl) rfl (ia_l (z := z) rfl rfl rfl rfl (Int.natCast_nonneg k) hz) rfl ?_)
                      | (refine isAi (x := .tmp 51) ?_; refine do_R rfl (step_ia_sl (j := k) rfl rfl rfl (Nat.zero_le _) rfl rfl (Int.natCast_nonneg k) (by omega)) rfl ?_)
                      | (refine isLi (x := .tmp 51) rfl ?_; refine lex_R rfl (by kernel_rfl) rfl (step_ia_sl (j := k) rfl rfl rfl (Nat.zero_le _) rfl rfl (Int.natCast_nonneg k) (by omega)) rfl ?_)
                      | (refine isAi (x := .tmp 51) ?_; refine do_R rfl (step_ia_sl (j := k) rfl rfl rfl (Nat.zero_le _) rfl rfl (Int.natCast_nonneg k) (by omega)) rfl ?_)
                      | (refine isLi (x := .tmp 51) rfl ?_; refine lex_R rfl (by kernel_rfl) rfl (step_ia_sl (j := k) rfl rfl rfl (Nat.zero_le _) rfl rfl (Int.natCast_nonneg k) (by omega)) rfl ?_)
                      | (refine isAl (x := .tmp 53) ?_; refine do_R rfl (step_load1 (T := intT) (z := g) rfl rfl rfl rfl hg1 rfl) rfl ?_)
                      | (refine isLl (x := .tmp 53) rfl ?_; refine lex_R rfl (by kernel_rfl) rfl (step_load1 (T := intT) (z := g) rfl rfl rfl rfl hg1 rfl) rfl ?_)
                      | (refine isAs ?_; refine do_R rfl (set_l1 (T := intT) (z := IntKind.i64.wrap (g + moreG z (innerG b.act (9 - (j : Int)) (outerG b.act (startG b) j) k).2)) rfl rfl rfl rfl rfl rfl (Nat.lt_of_lt_of_eq (show (0 + k) * 1 < b.act.length by omega) hgl.symm)) rfl ?_)
                      | (refine isLs rfl ?_; refine lex_R rfl (by kernel_rfl) rfl (set_l1 (T := intT) (z := IntKind.i64.wrap (g + moreG z (innerG b.act (9 - (j : Int)) (outerG b.act (startG b) j) k).2)) rfl rfl rfl rfl rfl rfl (Nat.lt_of_lt_of_eq (show (0 + k) * 1 < b.act.length by omega) hgl.symm)) rfl ?_)
                      | refine aops_nil ?_
                      | refine lex_done _ rfl (by kernel_rfl) ?_
                      | refine aw_ct rfl ?_
                      | refine aw_cf rfl ?_
                      | refine aw_block ?_
                      | refine then_n ?_
                      | refine aw_skip ?_
                      | refine aw_exit ?_
                      | refine then_x ?_
                      | refine then_r ?_
                      | refine block_x ?_
                      | refine block_n ?_
                      | refine block_r ?_
                      | refine aw_ret ?_
                    refine ⟨⟨k + 1, hlk⟩, by simp only; omega, ?_⟩
                    have e := innerG_at (p := 9 - (j : Int)) (s := outerG b.act (startG b) j) hz
                    rw [stepG, if_pos he, hg] at e
                    exact sub0 [0, 1] rfl rfl (by decide) (.cons rfl rfl rfl rfl (les_refl' rfl) (.cons rfl rfl rfl rfl (les_eq (by rw [e, Nat.zero_add]; show (regOf intT 3 (List.set _ (k * 1) _)).cells = _; rw [Nat.mul_one]; rfl) (flat_noH _ _)) .nil)) (by
                      repeat' first
                        | exact les_nil
                        | refine les_cons ?_ ?_
                        | exact le_any
                        | exact le_refl rfl
                        | exact le_ptr rfl
                        | exact le_sl rfl rfl
                        | exact le_i hlk (by omega)
                        | (refine le_k ?_; rw [e]; rfl))
                  · have he := of_decide_eq_false he
                    repeat' first
                      | refine aw_seq ?_
                      | refine aw_region ?_
                      | refine aw_lex [] ?_
                      | (refine isA ?_; refine do_F rfl ?_)
                      | (refine isL ?_; refine lex_F rfl (by kernel_rfl) rfl rfl ?_)
                      | (refine isLg rfl ?_; refine lex_S rfl (by kernel_rfl) rfl rfl ?_)
                      | refine aops_nil ?_
                      | refine lex_done _ rfl (by kernel_rfl) ?_
                      | refine aw_ct rfl ?_
                      | refine aw_cf rfl ?_
                      | refine aw_block ?_
                      | refine then_n ?_
                      | refine aw_skip ?_
                      | refine aw_exit ?_
                      | refine then_x ?_
                      | refine then_r ?_
                      | refine block_x ?_
                      | refine block_n ?_
                      | refine block_r ?_
                      | refine aw_ret ?_
                    refine ⟨⟨k + 1, hlk⟩, by simp only; omega, ?_⟩
                    have e := innerG_at (p := 9 - (j : Int)) (s := outerG b.act (startG b) j) hz
                    rw [stepG_no he] at e
                    exact sub0 [0, 1] rfl rfl (by decide) (.cons rfl rfl rfl rfl (les_refl' rfl) (.cons rfl rfl rfl rfl (les_eq (by rw [e]) (flat_noH _ _)) .nil)) (by
                      repeat' first
                        | exact les_nil
                        | refine les_cons ?_ ?_
                        | exact le_any
                        | exact le_refl rfl
                        | exact le_ptr rfl
                        | exact le_sl rfl rfl
                        | exact le_i hlk (by omega)
                        | (refine le_k ?_; rw [e]))
                · have hge : k = b.act.length := by
                    have : ¬ ((k : Int) < b.act.length) := by simpa using h
                    omega
                  subst hge
                  repeat' first
                    | refine aw_seq ?_
                    | refine aw_region ?_
                    | refine aw_lex [] ?_
                    | (refine isA ?_; refine do_F rfl ?_)
                    | (refine isL ?_; refine lex_F rfl (by kernel_rfl) rfl rfl ?_)
                    | (refine isLg rfl ?_; refine lex_S rfl (by kernel_rfl) rfl rfl ?_)
                    | refine aops_nil ?_
                    | refine lex_done _ rfl (by kernel_rfl) ?_
                    | refine aw_ct rfl ?_
                    | refine aw_cf rfl ?_
                    | refine aw_block ?_
                    | refine then_n ?_
                    | refine aw_skip ?_
                    | refine aw_exit ?_
                    | refine then_x ?_
                    | refine then_r ?_
                    | refine block_x ?_
                    | refine block_n ?_
                    | refine block_r ?_
                    | refine aw_ret ?_
                  refine ⟨⟨j + 1, hlj⟩, by simp only; omega, ?_⟩
                  exact sub0 [0, 1] rfl rfl (by decide) (.cons rfl rfl rfl rfl (les_refl' rfl) (.cons rfl rfl rfl rfl (les_eq rfl (flat_noH _ _)) .nil)) (by
                    repeat' first
                      | exact les_nil
                      | refine les_cons ?_ ?_
                      | exact le_any
                      | exact le_refl rfl
                      | exact le_ptr rfl
                      | exact le_sl rfl rfl
                      | exact le_p hlj)
            · have hge : j = 10 := by have := of_decide_eq_false h; simp only at this; omega
              subst hge
              repeat' first
                | refine aw_seq ?_
                | refine aw_region ?_
                | refine aw_lex [] ?_
                | (refine isA ?_; refine do_F rfl ?_)
                | (refine isL ?_; refine lex_F rfl (by kernel_rfl) rfl rfl ?_)
                | (refine isLg rfl ?_; refine lex_S rfl (by kernel_rfl) rfl rfl ?_)
                | exact finP rfl (by rw [cg, hv]; exact pur_L rfl rfl rfl (cgV_len b).symm)
                | refine aops_nil ?_
                | refine lex_done _ rfl (by kernel_rfl) ?_
                | refine aw_ct rfl ?_
                | refine aw_cf rfl ?_
                | refine aw_block ?_
                | refine then_n ?_
                | refine aw_skip ?_
                | refine aw_exit ?_
                | refine then_x ?_
                | refine then_r ?_
                | refine block_x ?_
                | refine block_n ?_
                | refine block_r ?_
                | refine aw_ret ?_
    · refine per_W 3 rfl (by kernel_rfl) rfl rfl (mk_l intT 0 rfl rfl rfl h1 rfl rfl rfl) rfl ?_
      refine per_P 6 rfl (by kernel_rfl) rfl (fun _ => rfl) rfl ?_
      refine per_P 7 rfl (by kernel_rfl) rfl (fun _ => rfl) rfl ?_
      refine per_done (by kernel_rfl) ?_
      repeat' first
        | refine aw_seq ?_
        | refine aw_region ?_
        | refine aw_lex [] ?_
        | (refine isA ?_; refine do_F rfl ?_)
        | (refine isL ?_; refine lex_F rfl (by kernel_rfl) rfl rfl ?_)
        | (refine isLg rfl ?_; refine lex_S rfl (by kernel_rfl) rfl rfl ?_)
        | refine aops_nil ?_
        | refine lex_done _ rfl (by kernel_rfl) ?_
        | refine aw_ct rfl ?_
        | refine aw_cf rfl ?_
        | refine aw_block ?_
        | refine then_n ?_
        | refine aw_skip ?_
        | refine aw_exit ?_
        | refine then_x ?_
        | refine then_r ?_
        | refine block_x ?_
        | refine block_n ?_
        | refine block_r ?_
        | refine aw_ret ?_
      refine aw_loop (α := { i : Nat // i ≤ b.act.length }) (fun i => ⟨[.any, .ptr 0 0, .any, .sl 1 0 b.act.length, I (frI b.pool i.1), .any, .any, .any, .any, .any, .any, .any, .any, .any, .any, .any, .any, .any, .any, .any, I b.act.length, I i.1, .any, .any, .any, .any, .any, .any, .any, .any, .any, .any, .any, .any, .any, .any, .any, .any, .any, .any, .any, .any, .any, .any, .any, .any, .any, .any, .any, .any, .any, .any, .any, .any, .any, .any, .any, .any, .any, .any, .any, .any, .any], [⟨24, 4, brE b, 0⟩, regOf intT 3 (List.replicate i.1 (8 : Int) ++ List.replicate (b.act.length - i.1) 0)], 0⟩) (fun i => b.act.length - i.1) ⟨0, Nat.zero_le _⟩ ?_ ?_
      · exact sub0 [0, 1] rfl rfl (by decide) (.cons rfl rfl rfl rfl (les_refl' rfl) (.cons rfl rfl rfl rfl (les_eq rfl (flat_noH _ _)) .nil)) (by repeat' first | exact les_nil | refine les_cons ?_ ?_ | exact le_any | exact le_refl rfl | exact le_sl rfl rfl | exact le_ptr rfl)
      · rintro ⟨i, hi⟩
        repeat' first
          | refine aw_seq ?_
          | refine aw_region ?_
          | refine aw_lex [] ?_
          | (refine isA ?_; refine do_F rfl ?_)
          | (refine isL ?_; refine lex_F rfl (by kernel_rfl) rfl rfl ?_)
          | (refine isLg rfl ?_; refine lex_S rfl (by kernel_rfl) rfl rfl ?_)
          | refine aops_nil ?_
          | refine lex_done _ rfl (by kernel_rfl) ?_
          | refine aw_ct rfl ?_
          | refine aw_cf rfl ?_
          | refine aw_block ?_
          | refine then_n ?_
          | refine aw_skip ?_
          | refine aw_exit ?_
          | refine then_x ?_
          | refine then_r ?_
          | refine block_x ?_
          | refine block_n ?_
          | refine block_r ?_
          | refine aw_ret ?_
        refine aw_cond rfl (fun h => ?_) (fun h => ?_)
        · have hlt : i < b.act.length := by simpa using h
          repeat' first
            | refine aw_seq ?_
            | refine aw_region ?_
            | refine aw_lex [] ?_
            | (refine isA ?_; refine do_F rfl ?_)
            | (refine isL ?_; refine lex_F rfl (by kernel_rfl) rfl rfl ?_)
            | (refine isLg rfl ?_; refine lex_S rfl (by kernel_rfl) rfl rfl ?_)
            | (refine isAi ?_; refine do_R rfl (step_ia_sl (j := i) rfl rfl rfl (Nat.zero_le _) rfl rfl (Int.natCast_nonneg i) (by omega)) rfl ?_)
            | (refine isLi rfl ?_; refine lex_R rfl (by kernel_rfl) rfl (step_ia_sl (j := i) rfl rfl rfl (Nat.zero_le _) rfl rfl (Int.natCast_nonneg i) (by omega)) rfl ?_)
            | (refine isAs ?_; refine do_R rfl (set_l1 (T := intT) (xs := List.replicate i (8 : Int) ++ List.replicate (b.act.length - i) 0) (z := 8) rfl rfl rfl rfl rfl rfl (Nat.lt_of_lt_of_eq (show (0 + i) * 1 < b.act.length by omega) (by simp; omega))) rfl ?_)
            | (refine isLs rfl ?_; refine lex_R rfl (by kernel_rfl) rfl (set_l1 (T := intT) (xs := List.replicate i (8 : Int) ++ List.replicate (b.act.length - i) 0) (z := 8) rfl rfl rfl rfl rfl rfl (Nat.lt_of_lt_of_eq (show (0 + i) * 1 < b.act.length by omega) (by simp; omega))) rfl ?_)
            | refine aops_nil ?_
            | refine lex_done _ rfl (by kernel_rfl) ?_
            | refine aw_ct rfl ?_
            | refine aw_cf rfl ?_
            | refine aw_block ?_
            | refine then_n ?_
            | refine aw_skip ?_
            | refine aw_exit ?_
            | refine then_x ?_
            | refine then_r ?_
            | refine block_x ?_
            | refine block_n ?_
            | refine block_r ?_
            | refine aw_ret ?_
          refine ⟨⟨i + 1, hlt⟩, by simp only; omega, ?_⟩
          exact sub0 [0, 1] rfl rfl (by decide) (.cons rfl rfl rfl rfl (les_refl' rfl) (.cons rfl rfl rfl rfl (les_eq (by rw [Nat.zero_add]; show (regOf intT 3 (List.set _ (i * 1) _)).cells = _; rw [Nat.mul_one]; exact congrArg intT.flat (fill8 hlt)) (flat_noH _ _)) .nil)) (by repeat' first | exact les_nil | refine les_cons ?_ ?_ | exact le_any | exact le_refl rfl | exact le_sl rfl rfl | exact le_ptr rfl | exact le_i (by assumption) (by omega))
        · have hge : i = b.act.length := by
            have : ¬ ((i : Int) < b.act.length) := by simpa using h
            omega
          subst hge
          repeat' first
            | refine aw_seq ?_
            | refine aw_region ?_
            | refine aw_lex [] ?_
            | (refine isA ?_; refine do_F rfl ?_)
            | (refine isL ?_; refine lex_F rfl (by kernel_rfl) rfl rfl ?_)
            | (refine isLg rfl ?_; refine lex_S rfl (by kernel_rfl) rfl rfl ?_)
            | refine aops_nil ?_
            | refine lex_done _ rfl (by kernel_rfl) ?_
            | refine aw_ct rfl ?_
            | refine aw_cf rfl ?_
            | refine aw_block ?_
            | refine then_n ?_
            | refine aw_skip ?_
            | refine aw_exit ?_
            | refine then_x ?_
            | refine then_r ?_
            | refine block_x ?_
            | refine block_n ?_
            | refine block_r ?_
            | refine aw_ret ?_
          refine aw_loop (α := { j : Nat // j ≤ 10 }) (fun j => ⟨[.any, .ptr 0 0, .any, .sl 1 0 b.act.length, I (outerG b.act (startG b) j.1).2, .any, I (9 - (j.1 : Int)), .any, .any, .any, .any, .any, .any, .any, .any, .any, .any, .any, .any, .any, .any, .any, .any, .any, .any, .any, .any, .any, .any, .any, .any, .any, .any, .any, .any, .any, .any, .any, .any, .any, .any, .any, .any, .any, .any, .any, .any, .any, .any, .any, .any, .any, .any, .any, .any, .any, .any, .any, .any, .any, .any, .any, .any], [⟨24, 4, brE b, 0⟩, regOf intT 3 (outerG b.act (startG b) j.1).1], 0⟩) (fun j => 10 - j.1) ⟨0, Nat.zero_le _⟩ ?_ ?_
          · exact sub0 [0, 1] rfl rfl (by decide) (.cons rfl rfl rfl rfl (les_refl' rfl) (.cons rfl rfl rfl rfl (les_eq (by rw [Nat.sub_self]; simp [outerG, startG]) (flat_noH _ _)) .nil)) (by
              repeat' first
                | exact les_nil
                | refine les_cons ?_ ?_
                | exact le_any
                | exact le_refl rfl
                | exact le_ptr rfl
                | exact le_sl rfl (by simp))
          · rintro ⟨j, hj⟩
            repeat' first
              | refine aw_seq ?_
              | refine aw_region ?_
              | refine aw_lex [] ?_
              | (refine isA ?_; refine do_F rfl ?_)
              | (refine isL ?_; refine lex_F rfl (by kernel_rfl) rfl rfl ?_)
              | (refine isLg rfl ?_; refine lex_S rfl (by kernel_rfl) rfl rfl ?_)
              | refine aops_nil ?_
              | refine lex_done _ rfl (by kernel_rfl) ?_
              | refine aw_ct rfl ?_
              | refine aw_cf rfl ?_
              | refine aw_block ?_
              | refine then_n ?_
              | refine aw_skip ?_
              | refine aw_exit ?_
              | refine then_x ?_
              | refine then_r ?_
              | refine block_x ?_
              | refine block_n ?_
              | refine block_r ?_
              | refine aw_ret ?_
            refine aw_cond rfl (fun h => ?_) (fun h => ?_)
            · have hlj : j < 10 := by have := of_decide_eq_true h; simp only at this; omega
              repeat' first
                | refine aw_seq ?_
                | refine aw_region ?_
                | refine aw_lex [] ?_
                | (refine isA ?_; refine do_F rfl ?_)
                | (refine isL ?_; refine lex_F rfl (by kernel_rfl) rfl rfl ?_)
                | (refine isLg rfl ?_; refine lex_S rfl (by kernel_rfl) rfl rfl ?_)
                | refine aops_nil ?_
                | refine lex_done _ rfl (by kernel_rfl) ?_
                | refine aw_ct rfl ?_
                | refine aw_cf rfl ?_
                | refine aw_block ?_
                | refine then_n ?_
                | refine aw_skip ?_
                | refine aw_exit ?_
                | refine then_x ?_
                | refine then_r ?_
                | refine block_x ?_
                | refine block_n ?_
                | refine block_r ?_
                | refine aw_ret ?_
              refine aw_loop (α := { k : Nat // k ≤ b.act.length }) (fun k => ⟨[.any, .ptr 0 0, .any, .sl 1 0 b.act.length, I (innerG b.act (9 - (j : Int)) (outerG b.act (startG b) j) k.1).2, .any, I (9 - (j : Int)), .any, .any, .any, .any, .any, .any, .any, .any, .any, .any, .any, .any, .any, .any, .any, .any, .any, .any, .any, .any, .any, .any, .any, .any, .any, .any, .any, .any, clL b.act, I b.act.length, I k.1, .any, .any, .any, .any, .any, .any, .any, .any, .any, .any, .any, .any, .any, .any, .any, .any, .any, .any, .any, .any, .any, .any, .any, .any, .any], [⟨24, 4, brE b, 0⟩, regOf intT 3 (innerG b.act (9 - (j : Int)) (outerG b.act (startG b) j) k.1).1], 0⟩) (fun k => b.act.length - k.1) ⟨0, Nat.zero_le _⟩ ?_ ?_
              · exact sub0 [0, 1] rfl rfl (by decide) (.cons rfl rfl rfl rfl (les_refl' rfl) (.cons rfl rfl rfl rfl (les_eq rfl (flat_noH _ _)) .nil)) (by repeat' first | exact les_nil | refine les_cons ?_ ?_ | exact le_any | exact le_refl rfl | exact le_sl rfl rfl | exact le_ptr rfl)
              · rintro ⟨k, hk⟩
                have hgl : (innerG b.act (9 - (j : Int)) (outerG b.act (startG b) j) k).1.length = b.act.length := by rw [innerG_len, outerG_len, startG]; simp
                repeat' first
                  | refine aw_seq ?_
                  | refine aw_region ?_
                  | refine aw_lex [] ?_
                  | (refine isA ?_; refine do_F rfl ?_)
                  | (refine isL ?_; refine lex_F rfl (by kernel_rfl) rfl rfl ?_)
                  | (refine isLg rfl ?_; refine lex_S rfl (by kernel_rfl) rfl rfl ?_)
                  | refine aops_nil ?_
                  | refine lex_done _ rfl (by kernel_rfl) ?_
                  | refine aw_ct rfl ?_
                  | refine aw_cf rfl ?_
                  | refine aw_block ?_
                  | refine then_n ?_
                  | refine aw_skip ?_
                  | refine aw_exit ?_
                  | refine then_x ?_
                  | refine then_r ?_
                  | refine block_x ?_
                  | refine block_n ?_
                  | refine block_r ?_
                  | refine aw_ret ?_
                refine aw_cond rfl (fun h => ?_) (fun h => ?_)
                · have hlk : k < b.act.length := by simpa using h
                  obtain ⟨z, hz⟩ : ∃ z, b.act[k]? = some z := ⟨_, List.getElem?_eq_getElem hlk⟩
                  obtain ⟨g, hg⟩ : ∃ g, (innerG b.act (9 - (j : Int)) (outerG b.act (startG b) j) k).1[k]? = some g := ⟨_, List.getElem?_eq_getElem (by rw [hgl]; exact hlk)⟩
                  have hg1 : (innerG b.act (9 - (j : Int)) (outerG b.act (startG b) j) k).1[(0 + k) * 1]? = some g := by rw [Nat.zero_add, Nat.mul_one]; exact hg
                  repeat' first
                    | refine aw_seq ?_
                    | refine aw_region ?_
                    | refine aw_lex [] ?_
                    | (refine isA ?_; refine do_F rfl ?_)
                    | (refine isL ?_; refine lex_F rfl (by kernel_rfl) rfl rfl ?_)
                    | (refine isLg rfl ?_; refine lex_S rfl (by kernel_rfl) rfl rfl ?_)
                    | (refine isAi (x := .tmp 35) ?_; refine do_R rfl (ia_l (z := z) rfl rfl rfl rfl (Int.natCast_nonneg k) hz) rfl ?_)
                    | (refine isLi (x := .tmp 35) rfl ?_; refine lex_R rfl (by kernel_rfl) rfl (ia_l (z := z) rfl rfl rfl rfl (Int.natCast_nonneg k) hz) rfl ?_)
                    | refine aops_nil ?_
                    | refine lex_done _ rfl (by kernel_rfl) ?_
                    | refine aw_ct rfl ?_
                    | refine aw_cf rfl ?_
                    | refine aw_block ?_
                    | refine then_n ?_
                    | refine aw_skip ?_
                    | refine aw_exit ?_
                    | refine then_x ?_
                    | refine then_r ?_
                    | refine block_x ?_
                    | refine block_n ?_
                    | refine block_r ?_
                    | refine aw_ret ?_
                  refine aw_cond rfl (fun he => ?_) (fun he => ?_)
                  · have he := of_decide_eq_true he
                    repeat' first
                      | refine aw_seq ?_
                      | refine aw_region ?_
                      | refine aw_lex [] ?_
                      | (refine isA ?_; refine do_F rfl ?_)
                      | (refine isL ?_; refine lex_F rfl (by kernel_rfl) rfl rfl ?_)
                      | (refine isLg rfl ?_; refine lex_S rfl (by kernel_rfl) rfl rfl ?_)
                      | (refine isAi (x := .tmp 49) ?_; refine do_R rfl (ia_l (z := z) rfl rfl rfl rfl (Int.natCast_nonneg k) hz) rfl ?_)
                      | (refine isLi (x := .tmp 49) rfl ?_; refine lex_R rfl (by kernel_rfl) rfl (ia_l (z := z) rfl rfl rfl rfl (Int.natCast_nonneg k) hz) rfl ?_)
                      | (refine isAi (x := .tmp 51) ?_; refine do_R rfl (step_ia_sl (j := k) rfl rfl rfl (Nat.zero_le _) rfl rfl (Int.natCast_nonneg k) (by omega)) rfl ?_)
                      | (refine isLi (x := .tmp 51) rfl ?_; refine lex_R rfl (by kernel_rfl) rfl (step_ia_sl (j := k) rfl rfl rfl (Nat.zero_le _) rfl rfl (Int.natCast_nonneg k) (by omega)) rfl ?_)
                      | (refine isAi (x := .tmp 51) ?_; refine do_R rfl (step_ia_sl (j := k) rfl rfl rfl (Nat.zero_le _) rfl rfl (Int.natCast_nonneg k) (by omega)) rfl ?_)
                      | (refine isLi (x := .tmp 51) rfl ?_; refine lex_R rfl (by kernel_rfl) rfl (step_ia_sl (j := k) rfl rfl rfl (Nat.zero_le _) rfl rfl (Int.natCast_nonneg k) (by omega)) rfl ?_)
                      | (refine isAl (x := .tmp 53) ?_; refine do_R rfl (step_load1 (T := intT) (z := g) rfl rfl rfl rfl hg1 rfl) rfl ?_)
                      | (refine isLl (x := .tmp 53) rfl ?_; refine lex_R rfl (by kernel_rfl) rfl (step_load1 (T := intT) (z := g) rfl rfl rfl rfl hg1 rfl) rfl ?_)
                      | (refine isAs ?_; refine do_R rfl (set_l1 (T := intT) (z := IntKind.i64.wrap (g + moreG z (innerG b.act (9 - (j : Int)) (outerG b.act (startG b) j) k).2)) rfl rfl rfl rfl rfl rfl (Nat.lt_of_lt_of_eq (show (0 + k) * 1 < b.act.length by omega) hgl.symm)) rfl ?_)
                      | (refine isLs rfl ?_; refine lex_R rfl (by kernel_rfl) rfl (set_l1 (T := intT) (z := IntKind.i64.wrap (g + moreG z (innerG b.act (9 - (j : Int)) (outerG b.act (startG b) j) k).2)) rfl rfl rfl rfl rfl rfl (Nat.lt_of_lt_of_eq (show (0 + k) * 1 < b.act.length by omega) hgl.symm)) rfl ?_)
                      | refine aops_nil ?_
                      | refine lex_done _ rfl (by kernel_rfl) ?_
                      | refine aw_ct rfl ?_
                      | refine aw_cf rfl ?_
                      | refine aw_block ?_
                      | refine then_n ?_
                      | refine aw_skip ?_
                      | refine aw_exit ?_
                      | refine then_x ?_
                      | refine then_r ?_
                      | refine block_x ?_
                      | refine block_n ?_
                      | refine block_r ?_
                      | refine aw_ret ?_
                    refine ⟨⟨k + 1, hlk⟩, by simp only; omega, ?_⟩
                    have e := innerG_at (p := 9 - (j : Int)) (s := outerG b.act (startG b) j) hz
                    rw [stepG, if_pos he, hg] at e
                    exact sub0 [0, 1] rfl rfl (by decide) (.cons rfl rfl rfl rfl (les_refl' rfl) (.cons rfl rfl rfl rfl (les_eq (by rw [e, Nat.zero_add]; show (regOf intT 3 (List.set _ (k * 1) _)).cells = _; rw [Nat.mul_one]; rfl) (flat_noH _ _)) .nil)) (by
                      repeat' first
                        | exact les_nil
                        | refine les_cons ?_ ?_
                        | exact le_any
                        | exact le_refl rfl
                        | exact le_ptr rfl
                        | exact le_sl rfl rfl
                        | exact le_i hlk (by omega)
                        | (refine le_k ?_; rw [e]; rfl))
                  · have he := of_decide_eq_false he
                    repeat' first
                      | refine aw_seq ?_
                      | refine aw_region ?_
                      | refine aw_lex [] ?_
                      | (refine isA ?_; refine do_F rfl ?_)
                      | (refine isL ?_; refine lex_F rfl (by kernel_rfl) rfl rfl ?_)
                      | (refine isLg rfl ?_; refine lex_S rfl (by kernel_rfl) rfl rfl ?_)
                      | refine aops_nil ?_
                      | refine lex_done _ rfl (by kernel_rfl) ?_
                      | refine aw_ct rfl ?_
                      | refine aw_cf rfl ?_
                      | refine aw_block ?_
                      | refine then_n ?_
                      | refine aw_skip ?_
                      | refine aw_exit ?_
                      | refine then_x ?_
                      | refine then_r ?_
                      | refine block_x ?_
                      | refine block_n ?_
                      | refine block_r ?_
                      | refine aw_ret ?_
                    refine ⟨⟨k + 1, hlk⟩, by simp only; omega, ?_⟩
                    have e := innerG_at (p := 9 - (j : Int)) (s := outerG b.act (startG b) j) hz
                    rw [stepG_no he] at e
                    exact sub0 [0, 1] rfl rfl (by decide) (.cons rfl rfl rfl rfl (les_refl' rfl) (.cons rfl rfl rfl rfl (les_eq (by rw [e]) (flat_noH _ _)) .nil)) (by
                      repeat' first
                        | exact les_nil
                        | refine les_cons ?_ ?_
                        | exact le_any
                        | exact le_refl rfl
                        | exact le_ptr rfl
                        | exact le_sl rfl rfl
                        | exact le_i hlk (by omega)
                        | (refine le_k ?_; rw [e]))
                · have hge : k = b.act.length := by
                    have : ¬ ((k : Int) < b.act.length) := by simpa using h
                    omega
                  subst hge
                  repeat' first
                    | refine aw_seq ?_
                    | refine aw_region ?_
                    | refine aw_lex [] ?_
                    | (refine isA ?_; refine do_F rfl ?_)
                    | (refine isL ?_; refine lex_F rfl (by kernel_rfl) rfl rfl ?_)
                    | (refine isLg rfl ?_; refine lex_S rfl (by kernel_rfl) rfl rfl ?_)
                    | refine aops_nil ?_
                    | refine lex_done _ rfl (by kernel_rfl) ?_
                    | refine aw_ct rfl ?_
                    | refine aw_cf rfl ?_
                    | refine aw_block ?_
                    | refine then_n ?_
                    | refine aw_skip ?_
                    | refine aw_exit ?_
                    | refine then_x ?_
                    | refine then_r ?_
                    | refine block_x ?_
                    | refine block_n ?_
                    | refine block_r ?_
                    | refine aw_ret ?_
                  refine ⟨⟨j + 1, hlj⟩, by simp only; omega, ?_⟩
                  exact sub0 [0, 1] rfl rfl (by decide) (.cons rfl rfl rfl rfl (les_refl' rfl) (.cons rfl rfl rfl rfl (les_eq rfl (flat_noH _ _)) .nil)) (by
                    repeat' first
                      | exact les_nil
                      | refine les_cons ?_ ?_
                      | exact le_any
                      | exact le_refl rfl
                      | exact le_ptr rfl
                      | exact le_sl rfl rfl
                      | exact le_p hlj)
            · have hge : j = 10 := by have := of_decide_eq_false h; simp only at this; omega
              subst hge
              repeat' first
                | refine aw_seq ?_
                | refine aw_region ?_
                | refine aw_lex [] ?_
                | (refine isA ?_; refine do_F rfl ?_)
                | (refine isL ?_; refine lex_F rfl (by kernel_rfl) rfl rfl ?_)
                | (refine isLg rfl ?_; refine lex_S rfl (by kernel_rfl) rfl rfl ?_)
                | exact finP rfl (by rw [cg, hv]; exact pur_L rfl rfl rfl (cgV_len b).symm)
                | refine aops_nil ?_
                | refine lex_done _ rfl (by kernel_rfl) ?_
                | refine aw_ct rfl ?_
                | refine aw_cf rfl ?_
                | refine aw_block ?_
                | refine then_n ?_
                | refine aw_skip ?_
                | refine aw_exit ?_
                | refine then_x ?_
                | refine then_r ?_
                | refine block_x ?_
                | refine block_n ?_
                | refine block_r ?_
                | refine aw_ret ?_
end Go.Proofs.Ytjlhfemfmkdlhaa.Ab

/- BrkH -/
namespace Go.Proofs.Ytjlhfemfmkdlhaa.Ab
open Go.RowKit

theorem c_at (xs : List Cl) (id : Int) (hl : xs.length ≤ 1000000000) : Meets Go.Proofs.Try.prog 78 [clL xs, I id] [] (I (idxC xs id)) [] false := by
  refine meets_of [4] Go.Proofs.Try.func78 rfl rfl ?_
  simp only [Go.Proofs.Try.ntmps78, List.length_cons, List.length_nil, Nat.reduceAdd, Nat.reduceSub, List.replicate_succ, List.replicate_zero, List.cons_append, List.nil_append]
  repeat' first
    | refine aw_seq ?_
    | refine aw_region ?_
    | refine aw_lex [] ?_
    | (refine isA ?_; refine do_F rfl ?_)
    | (refine isL ?_; refine lex_F rfl (by kernel_rfl) rfl rfl ?_)
    | (refine isLg rfl ?_; refine lex_S rfl (by kernel_rfl) rfl rfl ?_)
    | refine aops_nil ?_
    | refine lex_done _ rfl (by kernel_rfl) ?_
    | refine aw_ct rfl ?_
    | refine aw_cf rfl ?_
    | refine aw_block ?_
    | refine then_n ?_
    | refine aw_skip ?_
    | refine aw_exit ?_
    | refine then_x ?_
    | refine then_r ?_
    | refine block_x ?_
    | refine block_n ?_
    | refine block_r ?_
    | refine aw_ret ?_
  refine aw_loop (α := { i : Nat // i ≤ xs.length ∧ ∀ j z, j < i → xs[j]? = some z → z.a ≠ id }) (fun i => ⟨[clL xs, I id, .any, .any, .any, I i.1, .any, .any, .any, .any, .any, .any, .any, .any, .any, .any, .any, .any, .any, .any], [], 0⟩) (fun i => xs.length - i.1) ⟨0, Nat.zero_le _, fun j z hj => absurd hj (Nat.not_lt_zero _)⟩ ?_ ?_
  · exact sub0 [] rfl rfl (by decide) .nil (by repeat' first | exact les_nil | refine les_cons ?_ ?_ | exact le_any | exact le_refl rfl | exact le_sl rfl rfl | exact le_ptr rfl)
  · rintro ⟨i, hi, hb⟩
    repeat' first
      | refine aw_seq ?_
      | refine aw_region ?_
      | refine aw_lex [] ?_
      | (refine isA ?_; refine do_F rfl ?_)
      | (refine isL ?_; refine lex_F rfl (by kernel_rfl) rfl rfl ?_)
      | (refine isLg rfl ?_; refine lex_S rfl (by kernel_rfl) rfl rfl ?_)
      | refine aops_nil ?_
      | refine lex_done _ rfl (by kernel_rfl) ?_
      | refine aw_ct rfl ?_
      | refine aw_cf rfl ?_
      | refine aw_block ?_
      | refine then_n ?_
      | refine aw_skip ?_
      | refine aw_exit ?_
      | refine then_x ?_
      | refine then_r ?_
      | refine block_x ?_
      | refine block_n ?_
      | refine block_r ?_
      | refine aw_ret ?_
    refine aw_cond rfl (fun h => ?_) (fun h => ?_)
    · have hlt : i < xs.length := by simpa using h
      obtain ⟨z, hz⟩ : ∃ z, xs[i]? = some z := ⟨_, List.getElem?_eq_getElem hlt⟩
      repeat' first
        | refine aw_seq ?_
        | refine aw_region ?_
        | refine aw_lex [] ?_
        | (refine isA ?_; refine do_F rfl ?_)
        | (refine isL ?_; refine lex_F rfl (by kernel_rfl) rfl rfl ?_)
        | (refine isLg rfl ?_; refine lex_S rfl (by kernel_rfl) rfl rfl ?_)
        | (refine isAi ?_; refine do_R rfl (ia_l (z := z) rfl rfl rfl rfl (Int.natCast_nonneg i) hz) rfl ?_)
        | (refine isLi rfl ?_; refine lex_R rfl (by kernel_rfl) rfl (ia_l (z := z) rfl rfl rfl rfl (Int.natCast_nonneg i) hz) rfl ?_)
        | refine aops_nil ?_
        | refine lex_done _ rfl (by kernel_rfl) ?_
        | refine aw_ct rfl ?_
        | refine aw_cf rfl ?_
        | refine aw_block ?_
        | refine then_n ?_
        | refine aw_skip ?_
        | refine aw_exit ?_
        | refine then_x ?_
        | refine then_r ?_
        | refine block_x ?_
        | refine block_n ?_
        | refine block_r ?_
        | refine aw_ret ?_
      refine aw_cond rfl (fun heq => ?_) (fun hne => ?_)
      · repeat' first
          | refine aw_seq ?_
          | refine aw_region ?_
          | refine aw_lex [] ?_
          | (refine isA ?_; refine do_F rfl ?_)
          | (refine isL ?_; refine lex_F rfl (by kernel_rfl) rfl rfl ?_)
          | (refine isLg rfl ?_; refine lex_S rfl (by kernel_rfl) rfl rfl ?_)
          | exact fin1 rfl rfl (by rw [idx_some hz (of_decide_eq_true heq) hb])
          | refine aops_nil ?_
          | refine lex_done _ rfl (by kernel_rfl) ?_
          | refine aw_ct rfl ?_
          | refine aw_cf rfl ?_
          | refine aw_block ?_
          | refine then_n ?_
          | refine aw_skip ?_
          | refine aw_exit ?_
          | refine then_x ?_
          | refine then_r ?_
          | refine block_x ?_
          | refine block_n ?_
          | refine block_r ?_
          | refine aw_ret ?_
      · repeat' first
          | refine aw_seq ?_
          | refine aw_region ?_
          | refine aw_lex [] ?_
          | (refine isA ?_; refine do_F rfl ?_)
          | (refine isL ?_; refine lex_F rfl (by kernel_rfl) rfl rfl ?_)
          | (refine isLg rfl ?_; refine lex_S rfl (by kernel_rfl) rfl rfl ?_)
          | refine aops_nil ?_
          | refine lex_done _ rfl (by kernel_rfl) ?_
          | refine aw_ct rfl ?_
          | refine aw_cf rfl ?_
          | refine aw_block ?_
          | refine then_n ?_
          | refine aw_skip ?_
          | refine aw_exit ?_
          | refine then_x ?_
          | refine then_r ?_
          | refine block_x ?_
          | refine block_n ?_
          | refine block_r ?_
          | refine aw_ret ?_
        refine ⟨⟨i + 1, hlt, fun j y hj hy => ?_⟩, by simp only; omega, ?_⟩
        · rcases Nat.lt_succ_iff_lt_or_eq.1 hj with hj | rfl
          · exact hb j y hj hy
          · rw [hz] at hy
            cases hy
            exact of_decide_eq_false hne
        · exact sub0 [] rfl rfl (by decide) .nil (by repeat' first | exact les_nil | refine les_cons ?_ ?_ | exact le_any | exact le_refl rfl | exact le_sl rfl rfl | exact le_ptr rfl | exact le_i (by assumption) (by omega))
    · have hge : i = xs.length := by
        have : ¬ ((i : Int) < xs.length) := by simpa using h
        omega
      subst hge
      repeat' first
        | refine aw_seq ?_
        | refine aw_region ?_
        | refine aw_lex [] ?_
        | (refine isA ?_; refine do_F rfl ?_)
        | (refine isL ?_; refine lex_F rfl (by kernel_rfl) rfl rfl ?_)
        | (refine isLg rfl ?_; refine lex_S rfl (by kernel_rfl) rfl rfl ?_)
        | exact fin1 rfl rfl (by rw [idx_none hb])
        | refine aops_nil ?_
        | refine lex_done _ rfl (by kernel_rfl) ?_
        | refine aw_ct rfl ?_
        | refine aw_cf rfl ?_
        | refine aw_block ?_
        | refine then_n ?_
        | refine aw_skip ?_
        | refine aw_exit ?_
        | refine then_x ?_
        | refine then_r ?_
        | refine block_x ?_
        | refine block_n ?_
        | refine block_r ?_
        | refine aw_ret ?_

def gf (b : Br) (id : Int) : Int × Bool := cond (validB b && decide (0 ≤ idxC b.act id)) (((cg b)[(idxC b.act id).toNat]?).getD 0, true) (0, false)

theorem idx_lt {xs : List Cl} {id : Int} (h : 0 ≤ idxC xs id) : (idxC xs id).toNat < xs.length := by
  unfold idxC at h ⊢
  cases hf : xs.findIdx? (fun c => decide (c.a = id)) with
  | none => rw [hf] at h; simp at h
  | some i =>
    rw [List.findIdx?_eq_some_iff_getElem] at hf
    simpa using hf.1
theorem cg_len {b : Br} (h : validB b = true) : (cg b).length = b.act.length := by rw [cg, h, cond_true, cgV_len]
theorem gf_no1 {b : Br} {id : Int} (h : ((cg b).length : Int) = 0) : gf b id = (0, false) := by
  cases hv : validB b with
  | false => simp [gf, hv]
  | true =>
    have := cg_len hv
    by_cases h0 : 0 ≤ idxC b.act id
    · have := idx_lt h0; omega
    · simp [gf, h0]
theorem gf_no2 {b : Br} {id : Int} (h : idxC b.act id < 0) : gf b id = (0, false) := by
  have : ¬ 0 ≤ idxC b.act id := by omega
  simp [gf, this]
theorem gf_no3 {b : Br} {id : Int} (h : validB b = false) : gf b id = (0, false) := by simp [gf, h]
theorem gf_yes {b : Br} {id : Int} (h : validB b = true) (h0 : ¬ idxC b.act id < 0) : ∃ g, (cg b)[(idxC b.act id).toNat]? = some g ∧ 0 ≤ idxC b.act id ∧ gf b id = (g, true) := by
  have h1 : 0 ≤ idxC b.act id := by omega
  have h2 : (idxC b.act id).toNat < (cg b).length := by rw [cg_len h]; exact idx_lt h1
  refine ⟨_, List.getElem?_eq_getElem h2, h1, ?_⟩
  simp [gf, h, h1, List.getElem?_eq_getElem h2]
theorem cg_valid {b : Br} (h : ¬ ((cg b).length : Int) = 0) : validB b = true := by
  cases hv : validB b with
  | true => rfl
  | false => simp [cg, hv] at h

theorem c_sgf (b : Br) (id : Int) (h1 : b.act.length ≤ 1000000000) (h2 : b.wait.length ≤ 1000000000) : Meets Go.Proofs.Try.prog 26 [.agg (brE b), I id] [] (.tup [I (gf b id).1, B (gf b id).2]) [] true := by
  refine meets_of [4, 5] Go.Proofs.Try.func26 rfl rfl ?_
  simp only [Go.Proofs.Try.ntmps26, List.length_cons, List.length_nil, Nat.reduceAdd, Nat.reduceSub, List.replicate_succ, List.replicate_zero, List.cons_append, List.nil_append]
  repeat' first
    | refine aw_seq ?_
    | refine aw_region ?_
    | refine aw_lex [] ?_
    | (refine isA ?_; refine do_F rfl ?_)
    | (refine isL ?_; refine lex_F rfl (by kernel_rfl) rfl rfl ?_)
    | (refine isLg rfl ?_; refine lex_S rfl (by kernel_rfl) rfl rfl ?_)
    | (refine isAc 30 ?_; refine do_R rfl (st_call rfl (c_scg _ h1 h2) (.cons (.same rfl) .nil) rfl) rfl ?_)
    | (refine isLc 30 rfl ?_; refine lex_R rfl (by kernel_rfl) rfl (st_call rfl (c_scg _ h1 h2) (.cons (.same rfl) .nil) rfl) rfl ?_)
    | (refine isAc 78 ?_; refine do_R rfl (st_call rfl (c_at _ _ h1) (.cons (.same rfl) (.cons (.same rfl) .nil)) rfl) rfl ?_)
    | (refine isLc 78 rfl ?_; refine lex_R rfl (by kernel_rfl) rfl (st_call rfl (c_at _ _ h1) (.cons (.same rfl) (.cons (.same rfl) .nil)) rfl) rfl ?_)
    | refine aops_nil ?_
    | refine lex_done _ rfl (by kernel_rfl) ?_
    | refine aw_ct rfl ?_
    | refine aw_cf rfl ?_
    | refine aw_block ?_
    | refine then_n ?_
    | refine aw_skip ?_
    | refine aw_exit ?_
    | refine then_x ?_
    | refine then_r ?_
    | refine block_x ?_
    | refine block_n ?_
    | refine block_r ?_
    | refine aw_ret ?_
  refine do_br rfl rfl (fun hl => ?_) (fun hl => ?_)
  · repeat' first
      | refine aw_seq ?_
      | refine aw_region ?_
      | refine aw_lex [] ?_
      | (refine isA ?_; refine do_F rfl ?_)
      | (refine isL ?_; refine lex_F rfl (by kernel_rfl) rfl rfl ?_)
      | (refine isLg rfl ?_; refine lex_S rfl (by kernel_rfl) rfl rfl ?_)
      | exact finPT rfl (by rw [gf_no1 (of_decide_eq_true hl)]; exact .same rfl)
      | refine aops_nil ?_
      | refine lex_done _ rfl (by kernel_rfl) ?_
      | refine aw_ct rfl ?_
      | refine aw_cf rfl ?_
      | refine aw_block ?_
      | refine then_n ?_
      | refine aw_skip ?_
      | refine aw_exit ?_
      | refine then_x ?_
      | refine then_r ?_
      | refine block_x ?_
      | refine block_n ?_
      | refine block_r ?_
      | refine aw_ret ?_
  · repeat' first
      | refine aw_seq ?_
      | refine aw_region ?_
      | refine aw_lex [] ?_
      | (refine isA ?_; refine do_F rfl ?_)
      | (refine isL ?_; refine lex_F rfl (by kernel_rfl) rfl rfl ?_)
      | (refine isLg rfl ?_; refine lex_S rfl (by kernel_rfl) rfl rfl ?_)
      | refine aops_nil ?_
      | refine lex_done _ rfl (by kernel_rfl) ?_
      | refine aw_ct rfl ?_
      | refine aw_cf rfl ?_
      | refine aw_block ?_
      | refine then_n ?_
      | refine aw_skip ?_
      | refine aw_exit ?_
      | refine then_x ?_
      | refine then_r ?_
      | refine block_x ?_
      | refine block_n ?_
      | refine block_r ?_
      | refine aw_ret ?_
    refine aw_cond rfl (fun hi => ?_) (fun hi => ?_)
    · repeat' first
        | refine aw_seq ?_
        | refine aw_region ?_
        | refine aw_lex [] ?_
        | (refine isA ?_; refine do_F rfl ?_)
        | (refine isL ?_; refine lex_F rfl (by kernel_rfl) rfl rfl ?_)
        | (refine isLg rfl ?_; refine lex_S rfl (by kernel_rfl) rfl rfl ?_)
        | exact finPT rfl (by rw [gf_no2 (of_decide_eq_true hi)]; exact .same rfl)
        | refine aops_nil ?_
        | refine lex_done _ rfl (by kernel_rfl) ?_
        | refine aw_ct rfl ?_
        | refine aw_cf rfl ?_
        | refine aw_block ?_
        | refine then_n ?_
        | refine aw_skip ?_
        | refine aw_exit ?_
        | refine then_x ?_
        | refine then_r ?_
        | refine block_x ?_
        | refine block_n ?_
        | refine block_r ?_
        | refine aw_ret ?_
    · obtain ⟨g, hg, h0, e⟩ := gf_yes (id := id) (cg_valid (of_decide_eq_false hl)) (of_decide_eq_false hi)
      repeat' first
        | refine aw_seq ?_
        | refine aw_region ?_
        | refine aw_lex [] ?_
        | (refine isA ?_; refine do_F rfl ?_)
        | (refine isL ?_; refine lex_F rfl (by kernel_rfl) rfl rfl ?_)
        | (refine isLg rfl ?_; refine lex_S rfl (by kernel_rfl) rfl rfl ?_)
        | (refine isAi ?_; refine do_R rfl (ia_l (t := intT) (z := g) rfl rfl rfl rfl h0 hg) rfl ?_)
        | (refine isLi rfl ?_; refine lex_R rfl (by kernel_rfl) rfl (ia_l (t := intT) (z := g) rfl rfl rfl rfl h0 hg) rfl ?_)
        | exact finPT rfl (by rw [e]; exact .same rfl)
        | refine aops_nil ?_
        | refine lex_done _ rfl (by kernel_rfl) ?_
        | refine aw_ct rfl ?_
        | refine aw_cf rfl ?_
        | refine aw_block ?_
        | refine then_n ?_
        | refine aw_skip ?_
        | refine aw_exit ?_
        | refine then_x ?_
        | refine then_r ?_
        | refine block_x ?_
        | refine block_n ?_
        | refine block_r ?_
        | refine aw_ret ?_

theorem c_igf (b : Br) (id : Int) (h1 : b.act.length ≤ 1000000000) (h2 : b.wait.length ≤ 1000000000) : Meets Go.Proofs.Try.prog 27 [.agg (brE b), I id] [] (.tup [I (gf b id).1, B (gf b id).2]) [] true := by
  refine meets_of [4, 5] Go.Proofs.Try.func27 rfl rfl ?_
  simp only [Go.Proofs.Try.ntmps27, List.length_cons, List.length_nil, Nat.reduceAdd, Nat.reduceSub, List.replicate_succ, List.replicate_zero, List.cons_append, List.nil_append]
  repeat' first
    | refine aw_seq ?_
    | refine aw_region ?_
    | refine aw_lex [] ?_
    | (refine isA ?_; refine do_F rfl ?_)
    | (refine isL ?_; refine lex_F rfl (by kernel_rfl) rfl rfl ?_)
    | (refine isLg rfl ?_; refine lex_S rfl (by kernel_rfl) rfl rfl ?_)
    | (refine isAc 76 ?_; refine do_R rfl (st_call rfl (c_clientAt _ _ h1) (.cons (.same rfl) (.cons (.same rfl) .nil)) rfl) rfl ?_)
    | (refine isLc 76 rfl ?_; refine lex_R rfl (by kernel_rfl) rfl (st_call rfl (c_clientAt _ _ h1) (.cons (.same rfl) (.cons (.same rfl) .nil)) rfl) rfl ?_)
    | (refine isAc 25 ?_; refine do_R rfl (st_call rfl (c_ivalid _ h1 h2) (.cons (.same rfl) .nil) rfl) rfl ?_)
    | (refine isLc 25 rfl ?_; refine lex_R rfl (by kernel_rfl) rfl (st_call rfl (c_ivalid _ h1 h2) (.cons (.same rfl) .nil) rfl) rfl ?_)
    | refine aops_nil ?_
    | refine lex_done _ rfl (by kernel_rfl) ?_
    | refine aw_ct rfl ?_
    | refine aw_cf rfl ?_
    | refine aw_block ?_
    | refine then_n ?_
    | refine aw_skip ?_
    | refine aw_exit ?_
    | refine then_x ?_
    | refine then_r ?_
    | refine block_x ?_
    | refine block_n ?_
    | refine block_r ?_
    | refine aw_ret ?_
  refine do_br rfl rfl (fun hl => ?_) (fun hl => ?_)
  · repeat' first
      | refine aw_seq ?_
      | refine aw_region ?_
      | refine aw_lex [] ?_
      | (refine isA ?_; refine do_F rfl ?_)
      | (refine isL ?_; refine lex_F rfl (by kernel_rfl) rfl rfl ?_)
      | (refine isLg rfl ?_; refine lex_S rfl (by kernel_rfl) rfl rfl ?_)
      | exact finPT rfl (by rw [gf_no3 (by simpa using hl)]; exact .same rfl)
      | refine aops_nil ?_
      | refine lex_done _ rfl (by kernel_rfl) ?_
      | refine aw_ct rfl ?_
      | refine aw_cf rfl ?_
      | refine aw_block ?_
      | refine then_n ?_
      | refine aw_skip ?_
      | refine aw_exit ?_
      | refine then_x ?_
      | refine then_r ?_
      | refine block_x ?_
      | refine block_n ?_
      | refine block_r ?_
      | refine aw_ret ?_
  · repeat' first
      | refine aw_seq ?_
      | refine aw_region ?_
      | refine aw_lex [] ?_
      | (refine isA ?_; refine do_F rfl ?_)
      | (refine isL ?_; refine lex_F rfl (by kernel_rfl) rfl rfl ?_)
      | (refine isLg rfl ?_; refine lex_S rfl (by kernel_rfl) rfl rfl ?_)
      | refine aops_nil ?_
      | refine lex_done _ rfl (by kernel_rfl) ?_
      | refine aw_ct rfl ?_
      | refine aw_cf rfl ?_
      | refine aw_block ?_
      | refine then_n ?_
      | refine aw_skip ?_
      | refine aw_exit ?_
      | refine then_x ?_
      | refine then_r ?_
      | refine block_x ?_
      | refine block_n ?_
      | refine block_r ?_
      | refine aw_ret ?_
    refine aw_cond rfl (fun hi => ?_) (fun hi => ?_)
    · repeat' first
        | refine aw_seq ?_
        | refine aw_region ?_
        | refine aw_lex [] ?_
        | (refine isA ?_; refine do_F rfl ?_)
        | (refine isL ?_; refine lex_F rfl (by kernel_rfl) rfl rfl ?_)
        | (refine isLg rfl ?_; refine lex_S rfl (by kernel_rfl) rfl rfl ?_)
        | exact finPT rfl (by rw [gf_no2 (of_decide_eq_true hi)]; exact .same rfl)
        | refine aops_nil ?_
        | refine lex_done _ rfl (by kernel_rfl) ?_
        | refine aw_ct rfl ?_
        | refine aw_cf rfl ?_
        | refine aw_block ?_
        | refine then_n ?_
        | refine aw_skip ?_
        | refine aw_exit ?_
        | refine then_x ?_
        | refine then_r ?_
        | refine block_x ?_
        | refine block_n ?_
        | refine block_r ?_
        | refine aw_ret ?_
    · obtain ⟨g, hg, h0, e⟩ := gf_yes (id := id) (b := b) (by simpa using hl) (of_decide_eq_false hi)
      repeat' first
        | refine aw_seq ?_
        | refine aw_region ?_
        | refine aw_lex [] ?_
        | (refine isA ?_; refine do_F rfl ?_)
        | (refine isL ?_; refine lex_F rfl (by kernel_rfl) rfl rfl ?_)
        | (refine isLg rfl ?_; refine lex_S rfl (by kernel_rfl) rfl rfl ?_)
        | (refine isAc 31 ?_; refine do_R rfl (st_call rfl (c_icg _ h1 h2) (.cons (.same rfl) .nil) rfl) rfl ?_)
        | (refine isLc 31 rfl ?_; refine lex_R rfl (by kernel_rfl) rfl (st_call rfl (c_icg _ h1 h2) (.cons (.same rfl) .nil) rfl) rfl ?_)
        | (refine isAi ?_; refine do_R rfl (ia_l (t := intT) (z := g) rfl rfl rfl rfl h0 hg) rfl ?_)
        | (refine isLi rfl ?_; refine lex_R rfl (by kernel_rfl) rfl (ia_l (t := intT) (z := g) rfl rfl rfl rfl h0 hg) rfl ?_)
        | exact finPT rfl (by rw [e]; exact .same rfl)
        | refine aops_nil ?_
        | refine lex_done _ rfl (by kernel_rfl) ?_
        | refine aw_ct rfl ?_
        | refine aw_cf rfl ?_
        | refine aw_block ?_
        | refine then_n ?_
        | refine aw_skip ?_
        | refine aw_exit ?_
        | refine then_x ?_
        | refine then_r ?_
        | refine block_x ?_
        | refine block_n ?_
        | refine block_r ?_
        | refine aw_ret ?_

theorem law_GrantFor (b : Br) (id : Int) (ha : b.act.length ≤ 9223372036854775807) (hw : b.wait.length ≤ 9223372036854775807) : Meets Go.Proofs.Try.prog 6 [.agg (brE b), I id] [] (B true) [] false := by
  refine meets_of [4] Go.Proofs.Try.func6 rfl rfl ?_
  simp only [Go.Proofs.Try.ntmps6, List.length_cons, List.length_nil, Nat.reduceAdd, Nat.reduceSub, List.replicate_succ, List.replicate_zero, List.cons_append, List.nil_append]
  repeat' first
    | refine aw_seq ?_
    | refine aw_region ?_
    | refine aw_lex [] ?_
    | (refine isA ?_; refine do_F rfl ?_)
    | (refine isL ?_; refine lex_F rfl (by kernel_rfl) rfl rfl ?_)
    | (refine isLg rfl ?_; refine lex_S rfl (by kernel_rfl) rfl rfl ?_)
    | (refine isAc 20 ?_; refine do_R rfl (st_call rfl (c_szBroker _ _) (.cons (.same rfl) (.cons (.same rfl) .nil)) rfl) rfl ?_)
    | (refine isLc 20 rfl ?_; refine lex_R rfl (by kernel_rfl) rfl (st_call rfl (c_szBroker _ _) (.cons (.same rfl) (.cons (.same rfl) .nil)) rfl) rfl ?_)
    | refine aops_nil ?_
    | refine lex_done _ rfl (by kernel_rfl) ?_
    | refine aw_ct rfl ?_
    | refine aw_cf rfl ?_
    | refine aw_block ?_
    | refine then_n ?_
    | refine aw_skip ?_
    | refine aw_exit ?_
    | refine then_x ?_
    | refine then_r ?_
    | refine block_x ?_
    | refine block_n ?_
    | refine block_r ?_
    | refine aw_ret ?_
  refine aw_cond rfl (fun h => ?_) (fun h => ?_)
  · repeat' first
      | refine aw_seq ?_
      | refine aw_region ?_
      | refine aw_lex [] ?_
      | (refine isA ?_; refine do_F rfl ?_)
      | (refine isL ?_; refine lex_F rfl (by kernel_rfl) rfl rfl ?_)
      | (refine isLg rfl ?_; refine lex_S rfl (by kernel_rfl) rfl rfl ?_)
      | exact fin1 rfl rfl rfl
      | refine aops_nil ?_
      | refine lex_done _ rfl (by kernel_rfl) ?_
      | refine aw_ct rfl ?_
      | refine aw_cf rfl ?_
      | refine aw_block ?_
      | refine then_n ?_
      | refine aw_skip ?_
      | refine aw_exit ?_
      | refine then_x ?_
      | refine then_r ?_
      | refine block_x ?_
      | refine block_n ?_
      | refine block_r ?_
      | refine aw_ret ?_
  · obtain ⟨h1, h2⟩ := sz_len ha hw h
    repeat' first
      | refine aw_seq ?_
      | refine aw_region ?_
      | refine aw_lex [] ?_
      | (refine isA ?_; refine do_F rfl ?_)
      | (refine isL ?_; refine lex_F rfl (by kernel_rfl) rfl rfl ?_)
      | (refine isLg rfl ?_; refine lex_S rfl (by kernel_rfl) rfl rfl ?_)
      | (refine isAc 22 ?_; refine do_R rfl (st_call rfl (c_toBroker _ (by omega) (by omega)) (.cons (.same rfl) .nil) rfl) rfl ?_)
      | (refine isLc 22 rfl ?_; refine lex_R rfl (by kernel_rfl) rfl (st_call rfl (c_toBroker _ (by omega) (by omega)) (.cons (.same rfl) .nil) rfl) rfl ?_)
      | (refine isAc 26 ?_; refine do_R rfl (st_call rfl (c_sgf _ _ (by omega) (by omega)) (.cons (.same rfl) (.cons (.same rfl) .nil)) rfl) rfl ?_)
      | (refine isLc 26 rfl ?_; refine lex_R rfl (by kernel_rfl) rfl (st_call rfl (c_sgf _ _ (by omega) (by omega)) (.cons (.same rfl) (.cons (.same rfl) .nil)) rfl) rfl ?_)
      | (refine isAc 27 ?_; refine do_R rfl (st_call rfl (c_igf _ _ (by omega) (by omega)) (.cons (.same rfl) (.cons (.same rfl) .nil)) rfl) rfl ?_)
      | (refine isLc 27 rfl ?_; refine lex_R rfl (by kernel_rfl) rfl (st_call rfl (c_igf _ _ (by omega) (by omega)) (.cons (.same rfl) (.cons (.same rfl) .nil)) rfl) rfl ?_)
      | refine aops_nil ?_
      | refine lex_done _ rfl (by kernel_rfl) ?_
      | refine aw_ct rfl ?_
      | refine aw_cf rfl ?_
      | refine aw_block ?_
      | refine then_n ?_
      | refine aw_skip ?_
      | refine aw_exit ?_
      | refine then_x ?_
      | refine then_r ?_
      | refine block_x ?_
      | refine block_n ?_
      | refine block_r ?_
      | refine aw_ret ?_
    refine do_br rfl rfl (fun h => by simp at h) (fun _ => ?_)
    repeat' first
      | refine aw_seq ?_
      | refine aw_region ?_
      | refine aw_lex [] ?_
      | (refine isA ?_; refine do_F rfl ?_)
      | (refine isL ?_; refine lex_F rfl (by kernel_rfl) rfl rfl ?_)
      | (refine isLg rfl ?_; refine lex_S rfl (by kernel_rfl) rfl rfl ?_)
      | refine aops_nil ?_
      | refine lex_done _ rfl (by kernel_rfl) ?_
      | refine aw_ct rfl ?_
      | refine aw_cf rfl ?_
      | refine aw_block ?_
      | refine then_n ?_
      | refine aw_skip ?_
      | refine aw_exit ?_
      | refine then_x ?_
      | refine then_r ?_
      | refine block_x ?_
      | refine block_n ?_
      | refine block_r ?_
      | refine aw_ret ?_
    refine aw_cond rfl (fun h => by simp at h) (fun _ => ?_)
    repeat' first
      | refine aw_seq ?_
      | refine aw_region ?_
      | refine aw_lex [] ?_
      | (refine isA ?_; refine do_F rfl ?_)
      | (refine isL ?_; refine lex_F rfl (by kernel_rfl) rfl rfl ?_)
      | (refine isLg rfl ?_; refine lex_S rfl (by kernel_rfl) rfl rfl ?_)
      | (refine isAc 22 ?_; refine do_R rfl (st_call rfl (c_toBroker _ (by omega) (by omega)) (.cons (.same rfl) .nil) rfl) rfl ?_)
      | (refine isLc 22 rfl ?_; refine lex_R rfl (by kernel_rfl) rfl (st_call rfl (c_toBroker _ (by omega) (by omega)) (.cons (.same rfl) .nil) rfl) rfl ?_)
      | (refine isAc 17 ?_; refine do_R rfl (st_call rfl (c_eqBroker _ (by omega) (by omega)) (.cons (.same rfl) (.cons (.same rfl) .nil)) rfl) rfl ?_)
      | (refine isLc 17 rfl ?_; refine lex_R rfl (by kernel_rfl) rfl (st_call rfl (c_eqBroker _ (by omega) (by omega)) (.cons (.same rfl) (.cons (.same rfl) .nil)) rfl) rfl ?_)
      | exact fin1 rfl rfl rfl
      | refine aops_nil ?_
      | refine lex_done _ rfl (by kernel_rfl) ?_
      | refine aw_ct rfl ?_
      | refine aw_cf rfl ?_
      | refine aw_block ?_
      | refine then_n ?_
      | refine aw_skip ?_
      | refine aw_exit ?_
      | refine then_x ?_
      | refine then_r ?_
      | refine block_x ?_
      | refine block_n ?_
      | refine block_r ?_
      | refine aw_ret ?_
end Go.Proofs.Ytjlhfemfmkdlhaa.Ab

/- BrkI -/
namespace Go.Proofs.Ytjlhfemfmkdlhaa.Ab
open Go.RowKit

theorem flat_int (xs : List Int) : FlatL (intT.flat xs) := fun c hc => by
  simp only [Ty.flat, List.mem_flatMap] at hc
  obtain ⟨x, _, hx⟩ := hc
  simp only [intT, List.mem_cons, List.not_mem_nil, or_false] at hx
  exact ⟨_, hx⟩

theorem c_toClientSO (xs : List Cl) (hl : xs.length ≤ 1000000000) : Meets Go.Proofs.Try.prog 72 [clL xs] [] (.sl 0 0 xs.length) [regOf clT 53 xs] true := by
  refine meets_of [2] Go.Proofs.Try.func72 rfl rfl ?_
  simp only [Go.Proofs.Try.ntmps72, List.length_cons, List.length_nil, Nat.reduceAdd, Nat.reduceSub, List.replicate_succ, List.replicate_zero, List.cons_append, List.nil_append]
  repeat' first
    | refine aw_seq ?_
    | refine aw_region ?_
    | refine aw_lex [] ?_
    | (refine isA ?_; refine do_F rfl ?_)
    | (refine isL ?_; refine lex_F rfl (by kernel_rfl) rfl rfl ?_)
    | (refine isLg rfl ?_; refine lex_S rfl (by kernel_rfl) rfl rfl ?_)
    | refine do_R rfl (mk_l clT z3 rfl rfl rfl hl rfl rfl rfl) rfl ?_
    | refine lex_R rfl (by kernel_rfl) rfl (mk_l clT z3 rfl rfl rfl hl rfl rfl rfl) rfl ?_
    | refine aops_nil ?_
    | refine lex_done _ rfl (by kernel_rfl) ?_
    | refine aw_ct rfl ?_
    | refine aw_cf rfl ?_
    | refine aw_block ?_
    | refine then_n ?_
    | refine aw_skip ?_
    | refine aw_exit ?_
    | refine then_x ?_
    | refine then_r ?_
    | refine block_x ?_
    | refine block_n ?_
    | refine block_r ?_
    | refine aw_ret ?_
  refine aw_loop (α := { i : Nat // i ≤ xs.length }) (fun i => ⟨[clL xs, .any, .any, .sl 0 0 xs.length, I i.1, .any, .any, .any, .any, .any, .any, .any, .any, .any, .any, .any, .any, .any, .any, .any, .any, .any, .any], [regOf clT 53 (xs.take i.1 ++ List.replicate (xs.length - i.1) z3)], 0⟩) (fun i => xs.length - i.1) ⟨0, Nat.zero_le _⟩ ?_ ?_
  · exact sub0 [0] rfl rfl (by decide) (.cons rfl rfl rfl rfl (les_refl (flat_noH _ _)) .nil) (by repeat' first | exact les_nil | refine les_cons ?_ ?_ | exact le_any | exact le_refl rfl | exact le_sl rfl rfl | exact le_ptr rfl)
  · rintro ⟨i, hi⟩
    repeat' first
      | refine aw_seq ?_
      | refine aw_region ?_
      | refine aw_lex [] ?_
      | (refine isA ?_; refine do_F rfl ?_)
      | (refine isL ?_; refine lex_F rfl (by kernel_rfl) rfl rfl ?_)
      | (refine isLg rfl ?_; refine lex_S rfl (by kernel_rfl) rfl rfl ?_)
      | refine aops_nil ?_
      | refine lex_done _ rfl (by kernel_rfl) ?_
      | refine aw_ct rfl ?_
      | refine aw_cf rfl ?_
      | refine aw_block ?_
      | refine then_n ?_
      | refine aw_skip ?_
      | refine aw_exit ?_
      | refine then_x ?_
      | refine then_r ?_
      | refine block_x ?_
      | refine block_n ?_
      | refine block_r ?_
      | refine aw_ret ?_
    refine aw_cond rfl (fun h => ?_) (fun h => ?_)
    · have hlt : i < xs.length := by simpa using h
      obtain ⟨z, hz⟩ : ∃ z, xs[i]? = some z := ⟨_, List.getElem?_eq_getElem hlt⟩
      repeat' first
        | refine aw_seq ?_
        | refine aw_region ?_
        | refine aw_lex [] ?_
        | (refine isA ?_; refine do_F rfl ?_)
        | (refine isL ?_; refine lex_F rfl (by kernel_rfl) rfl rfl ?_)
        | (refine isLg rfl ?_; refine lex_S rfl (by kernel_rfl) rfl rfl ?_)
        | refine do_R rfl (ia_l (z := z) rfl rfl rfl rfl (Int.natCast_nonneg _) hz) rfl ?_
        | refine lex_R rfl (by kernel_rfl) rfl (ia_l (z := z) rfl rfl rfl rfl (Int.natCast_nonneg _) hz) rfl ?_
        | refine do_R rfl (st_call rfl (c_toClient _) (.cons (.same rfl) .nil) rfl) rfl ?_
        | refine lex_R rfl (by kernel_rfl) rfl (st_call rfl (c_toClient _) (.cons (.same rfl) .nil) rfl) rfl ?_
        | refine do_R rfl (step_ia_sl rfl rfl rfl (Nat.zero_le _) rfl rfl (Int.natCast_nonneg _) (by simpa using hlt)) rfl ?_
        | refine lex_R rfl (by kernel_rfl) rfl (step_ia_sl rfl rfl rfl (Nat.zero_le _) rfl rfl (Int.natCast_nonneg _) (by simpa using hlt)) rfl ?_
        | refine do_R rfl (set_l rfl rfl rfl rfl rfl (by simp; omega)) rfl ?_
        | refine lex_R rfl (by kernel_rfl) rfl (set_l rfl rfl rfl rfl rfl (by simp; omega)) rfl ?_
        | refine aops_nil ?_
        | refine lex_done _ rfl (by kernel_rfl) ?_
        | refine aw_ct rfl ?_
        | refine aw_cf rfl ?_
        | refine aw_block ?_
        | refine then_n ?_
        | refine aw_skip ?_
        | refine aw_exit ?_
        | refine then_x ?_
        | refine then_r ?_
        | refine block_x ?_
        | refine block_n ?_
        | refine block_r ?_
        | refine aw_ret ?_
      refine ⟨⟨i + 1, hlt⟩, by simp only; omega, ?_⟩
      exact sub0 [0] rfl rfl (by decide) (.cons rfl rfl rfl rfl (les_eq (by rw [Nat.zero_add]; exact congrArg clT.flat (fill_step (xs := xs) hz rfl)) (flat_noH _ _)) .nil) (by repeat' first | exact les_nil | refine les_cons ?_ ?_ | exact le_any | exact le_refl rfl | exact le_sl rfl rfl | exact le_ptr rfl | exact le_i (by assumption) (by omega))
    · have hge : i = xs.length := by
        have : ¬ ((i : Int) < xs.length) := by simpa using h
        omega
      subst hge
      repeat' first
        | refine aw_seq ?_
        | refine aw_region ?_
        | refine aw_lex [] ?_
        | (refine isA ?_; refine do_F rfl ?_)
        | (refine isL ?_; refine lex_F rfl (by kernel_rfl) rfl rfl ?_)
        | (refine isLg rfl ?_; refine lex_S rfl (by kernel_rfl) rfl rfl ?_)
        | exact finM 0 [0] (fun i hi => absurd hi (Nat.not_lt_zero _)) (by decide) rfl (le_sl rfl rfl) (.cons rfl rfl rfl rfl (les_eq (by simp) (flat_noH _ _)) .nil)
        | refine aops_nil ?_
        | refine lex_done _ rfl (by kernel_rfl) ?_
        | refine aw_ct rfl ?_
        | refine aw_cf rfl ?_
        | refine aw_block ?_
        | refine then_n ?_
        | refine aw_skip ?_
        | refine aw_exit ?_
        | refine then_x ?_
        | refine then_r ?_
        | refine block_x ?_
        | refine block_n ?_
        | refine block_r ?_
        | refine aw_ret ?_


def brO (b : Br) : List V := [I b.pool, I b.next, .sl 0 0 b.act.length, .sl 1 0 b.wait.length]
def brK (a w : List Cl) : List Reg := [regOf clT 53 a, regOf clT 53 w]

theorem c_toBrokerO (b : Br) (h1 : b.act.length ≤ 1000000000) (h2 : b.wait.length ≤ 1000000000) : Meets Go.Proofs.Try.prog 22 [.agg (brE b)] [] (.agg (brO b)) (brK b.act b.wait) true := by
  refine meets_ofC 2 24 Go.Proofs.Try.func22 rfl rfl ?_
  simp only [Go.Proofs.Try.ntmps22, List.length_cons, List.length_nil, Nat.reduceAdd, Nat.reduceSub, List.replicate_succ, List.replicate_zero, List.cons_append, List.nil_append]
  repeat' first
    | refine aw_seq ?_
    | refine aw_region ?_
    | refine aw_lex [] ?_
    | (refine isA ?_; refine do_F rfl ?_)
    | (refine isL ?_; refine lex_F rfl (by kernel_rfl) rfl rfl ?_)
    | (refine isLg rfl ?_; refine lex_S rfl (by kernel_rfl) rfl rfl ?_)
    | (refine isAc 72 ?_; refine do_R rfl (st_callK rfl (c_toClientSO _ h1) (.cons (.same rfl) .nil) (fun q hq => by simp at hq; subst hq; exact flat_noH _ _) rfl rfl) rfl ?_)
    | (refine isAc 72 ?_; refine do_R rfl (st_callK rfl (c_toClientSO _ h2) (.cons (.same rfl) .nil) (fun q hq => by simp at hq; subst hq; exact flat_noH _ _) rfl rfl) rfl ?_)
    | exact finMC [3, 4] (by decide) (cell_is rfl rfl rfl rfl rfl) (le_agg (les_cons (le_refl rfl) (les_cons (le_refl rfl) (les_cons (le_sl rfl rfl) (les_cons (le_sl rfl rfl) les_nil))))) (.cons rfl rfl rfl rfl (les_refl (flat_noH _ _)) (.cons rfl rfl rfl rfl (les_refl (flat_noH _ _)) .nil))
    | refine aops_nil ?_
    | refine lex_done _ rfl (by kernel_rfl) ?_
    | refine aw_ct rfl ?_
    | refine aw_cf rfl ?_
    | refine aw_block ?_
    | refine then_n ?_
    | refine aw_skip ?_
    | refine aw_exit ?_
    | refine then_x ?_
    | refine then_r ?_
    | refine block_x ?_
    | refine block_n ?_
    | refine block_r ?_
    | refine aw_ret ?_

theorem c_icgO (b : Br) (h1 : b.act.length ≤ 1000000000) (h2 : b.wait.length ≤ 1000000000) : Meets Go.Proofs.Try.prog 31 [.agg (brE b)] [] (.sl 0 0 (cg b).length) [regOf intT 3 (cg b)] false := by
  refine meets_of [2] Go.Proofs.Try.func31 rfl rfl ?_
  simp only [Go.Proofs.Try.ntmps31, List.length_cons, List.length_nil, Nat.reduceAdd, Nat.reduceSub, List.replicate_succ, List.replicate_zero, List.cons_append, List.nil_append]
  repeat' first
    | refine aw_seq ?_
    | refine aw_region ?_
    | refine aw_lex [] ?_
    | (refine isA ?_; refine do_F rfl ?_)
    | (refine isL ?_; refine lex_F rfl (by kernel_rfl) rfl rfl ?_)
    | (refine isLg rfl ?_; refine lex_S rfl (by kernel_rfl) rfl rfl ?_)
    | (refine isAc 25 ?_; refine do_R rfl (st_call rfl (c_ivalid _ h1 h2) (.cons (.same rfl) .nil) rfl) rfl ?_)
    | (refine isLc 25 rfl ?_; refine lex_R rfl (by kernel_rfl) rfl (st_call rfl (c_ivalid _ h1 h2) (.cons (.same rfl) .nil) rfl) rfl ?_)
    | refine aops_nil ?_
    | refine lex_done _ rfl (by kernel_rfl) ?_
    | refine aw_ct rfl ?_
    | refine aw_cf rfl ?_
    | refine aw_block ?_
    | refine then_n ?_
    | refine aw_skip ?_
    | refine aw_exit ?_
    | refine then_x ?_
    | refine then_r ?_
    | refine block_x ?_
    | refine block_n ?_
    | refine block_r ?_
    | refine aw_ret ?_
  refine aw_cond rfl (fun hv => ?_) (fun hv => ?_)
  · have hv : validB b = false := by simpa using hv
    repeat' first
      | refine aw_seq ?_
      | refine aw_region ?_
      | refine aw_lex [] ?_
      | (refine isA ?_; refine do_F rfl ?_)
      | (refine isL ?_; refine lex_F rfl (by kernel_rfl) rfl rfl ?_)
      | (refine isLg rfl ?_; refine lex_S rfl (by kernel_rfl) rfl rfl ?_)
      | exact (by rw [cg, hv]; exact finNil rfl)
      | refine aops_nil ?_
      | refine lex_done _ rfl (by kernel_rfl) ?_
      | refine aw_ct rfl ?_
      | refine aw_cf rfl ?_
      | refine aw_block ?_
      | refine then_n ?_
      | refine aw_skip ?_
      | refine aw_exit ?_
      | refine then_x ?_
      | refine then_r ?_
      | refine block_x ?_
      | refine block_n ?_
      | refine block_r ?_
      | refine aw_ret ?_
  · have hv : validB b = true := by simpa using hv
    refine aw_skip ?_
    refine then_n ?_
    refine aw_seq ?_
    refine aw_per [3] 8 rfl ?_
    refine per_P 0 rfl (by kernel_rfl) rfl (fun _ => rfl) rfl ?_
    refine per_F 1 rfl (by kernel_rfl) rfl rfl rfl ?_
    refine per_P 2 rfl (by kernel_rfl) rfl (fun _ => rfl) rfl ?_
    refine per_P 4 rfl (by kernel_rfl) rfl (fun _ => rfl) rfl ?_
    refine per_2F 3 5 rfl rfl (by kernel_rfl) (by kernel_rfl) rfl rfl (mk_l intT 0 rfl rfl rfl h1 rfl rfl rfl) rfl rfl rfl rfl ?_ ?_
    · refine per_F 5 rfl (by kernel_rfl) rfl rfl rfl ?_
      refine per_P 6 rfl (by kernel_rfl) rfl (fun _ => rfl) rfl ?_
      refine per_P 7 rfl (by kernel_rfl) rfl (fun _ => rfl) rfl ?_
      refine per_done (by kernel_rfl) ?_
      repeat' first
        | refine aw_seq ?_
        | refine aw_region ?_
        | refine aw_lex [] ?_
        | (refine isA ?_; refine do_F rfl ?_)
        | (refine isL ?_; refine lex_F rfl (by kernel_rfl) rfl rfl ?_)
        | (refine isLg rfl ?_; refine lex_S rfl (by kernel_rfl) rfl rfl ?_)
        | refine aops_nil ?_
        | refine lex_done _ rfl (by kernel_rfl) ?_
        | refine aw_ct rfl ?_
        | refine aw_cf rfl ?_
        | refine aw_block ?_
        | refine then_n ?_
        | refine aw_skip ?_
        | refine aw_exit ?_
        | refine then_x ?_
        | refine then_r ?_
        | refine block_x ?_
        | refine block_n ?_
        | refine block_r ?_
        | refine aw_ret ?_
      refine aw_loop (α := { i : Nat // i ≤ b.act.length }) (fun i => ⟨[.any, .ptr 0 0, .any, .sl 1 0 b.act.length, I (frI b.pool i.1), .any, .any, .any, .any, .any, .any, .any, .any, .any, .any, .any, .any, .any, .any, .any, I b.act.length, I i.1, .any, .any, .any, .any, .any, .any, .any, .any, .any, .any, .any, .any, .any, .any, .any, .any, .any, .any, .any, .any, .any, .any, .any, .any, .any, .any, .any, .any, .any, .any, .any, .any, .any, .any, .any, .any, .any, .any, .any, .any, .any], [⟨24, 4, brE b, 0⟩, regOf intT 3 (List.replicate i.1 (8 : Int) ++ List.replicate (b.act.length - i.1) 0)], 0⟩) (fun i => b.act.length - i.1) ⟨0, Nat.zero_le _⟩ ?_ ?_
      · exact sub0 [0, 1] rfl rfl (by decide) (.cons rfl rfl rfl rfl (les_refl' rfl) (.cons rfl rfl rfl rfl (les_eq rfl (flat_noH _ _)) .nil)) (by repeat' first | exact les_nil | refine les_cons ?_ ?_ | exact le_any | exact le_refl rfl | exact le_sl rfl rfl | exact le_ptr rfl)
      · rintro ⟨i, hi⟩
        repeat' first
          | refine aw_seq ?_
          | refine aw_region ?_
          | refine aw_lex [] ?_
          | (refine isA ?_; refine do_F rfl ?_)
          | (refine isL ?_; refine lex_F rfl (by kernel_rfl) rfl rfl ?_)
          | (refine isLg rfl ?_; refine lex_S rfl (by kernel_rfl) rfl rfl ?_)
          | refine aops_nil ?_
          | refine lex_done _ rfl (by kernel_rfl) ?_
          | refine aw_ct rfl ?_
          | refine aw_cf rfl ?_
          | refine aw_block ?_
          | refine then_n ?_
          | refine aw_skip ?_
          | refine aw_exit ?_
          | refine then_x ?_
          | refine then_r ?_
          | refine block_x ?_
          | refine block_n ?_
          | refine block_r ?_
          | refine aw_ret ?_
        refine aw_cond rfl (fun h => ?_) (fun h => ?_)
        · have hlt : i < b.act.length := by simpa using h
          repeat' first
            | refine aw_seq ?_
            | refine aw_region ?_
            | refine aw_lex [] ?_
            | (refine isA ?_; refine do_F rfl ?_)
            | (refine isL ?_; refine lex_F rfl (by kernel_rfl) rfl rfl ?_)
            | (refine isLg rfl ?_; refine lex_S rfl (by kernel_rfl) rfl rfl ?_)
            | (refine isAi ?_; refine do_R rfl (step_ia_sl (j := i) rfl rfl rfl (Nat.zero_le _) rfl rfl (Int.natCast_nonneg i) (by omega)) rfl ?_)
            | (refine isLi rfl ?_; refine lex_R rfl (by kernel_rfl) rfl (step_ia_sl (j := i) rfl rfl rfl (Nat.zero_le _) rfl rfl (Int.natCast_nonneg i) (by omega)) rfl ?_)
            | (refine isAs ?_; refine do_R rfl (set_l1 (T := intT) (xs := List.replicate i (8 : Int) ++ List.replicate (b.act.length - i) 0) (z := 8) rfl rfl rfl rfl rfl rfl (Nat.lt_of_lt_of_eq (show (0 + i) * 1 < b.act.length by omega) (by simp; omega))) rfl ?_)
            | (refine isLs rfl ?_; refine lex_R rfl (by kernel_rfl) rfl (set_l1 (T := intT) (xs := List.replicate i (8 : Int) ++ List.replicate (b.act.length - i) 0) (z := 8) rfl rfl rfl rfl rfl rfl (Nat.lt_of_lt_of_eq (show (0 + i) * 1 < b.act.length by omega) (by simp; omega))) rfl ?_)
            | refine aops_nil ?_
            | refine lex_done _ rfl (by kernel_rfl) ?_
            | refine aw_ct rfl ?_
            | refine aw_cf rfl ?_
            | refine aw_block ?_
            | refine then_n ?_
            | refine aw_skip ?_
            | refine aw_exit ?_
            | refine then_x ?_
            | refine then_r ?_
            | refine block_x ?_
            | refine block_n ?_
            | refine block_r ?_
            | refine aw_ret ?_
          refine ⟨⟨i + 1, hlt⟩, by simp only; omega, ?_⟩
          exact sub0 [0, 1] rfl rfl (by decide) (.cons rfl rfl rfl rfl (les_refl' rfl) (.cons rfl rfl rfl rfl (les_eq (by rw [Nat.zero_add]; show (regOf intT 3 (List.set _ (i * 1) _)).cells = _; rw [Nat.mul_one]; exact congrArg intT.flat (fill8 hlt)) (flat_noH _ _)) .nil)) (by repeat' first | exact les_nil | refine les_cons ?_ ?_ | exact le_any | exact le_refl rfl | exact le_sl rfl rfl | exact le_ptr rfl | exact le_i (by assumption) (by omega))
        · have hge : i = b.act.length := by
            have : ¬ ((i : Int) < b.act.length) := by simpa using h
            omega
          subst hge
          repeat' first
            | refine aw_seq ?_
            | refine aw_region ?_
            | refine aw_lex [] ?_
            | (refine isA ?_; refine do_F rfl ?_)
            | (refine isL ?_; refine lex_F rfl (by kernel_rfl) rfl rfl ?_)
            | (refine isLg rfl ?_; refine lex_S rfl (by kernel_rfl) rfl rfl ?_)
            | refine aops_nil ?_
            | refine lex_done _ rfl (by kernel_rfl) ?_
            | refine aw_ct rfl ?_
            | refine aw_cf rfl ?_
            | refine aw_block ?_
            | refine then_n ?_
            | refine aw_skip ?_
            | refine aw_exit ?_
            | refine then_x ?_
            | refine then_r ?_
            | refine block_x ?_
            | refine block_n ?_
            | refine block_r ?_
            | refine aw_ret ?_
          refine aw_loop (α := { j : Nat // j ≤ 10 }) (fun j => ⟨[.any, .ptr 0 0, .any, .sl 1 0 b.act.length, I (outerG b.act (startG b) j.1).2, .any, I (9 - (j.1 : Int)), .any, .any, .any, .any, .any, .any, .any, .any, .any, .any, .any, .any, .any, .any, .any, .any, .any, .any, .any, .any, .any, .any, .any, .any, .any, .any, .any, .any, .any, .any, .any, .any, .any, .any, .any, .any, .any, .any, .any, .any, .any, .any, .any, .any, .any, .any, .any, .any, .any, .any, .any, .any, .any, .any, .any, .any], [⟨24, 4, brE b, 0⟩, regOf intT 3 (outerG b.act (startG b) j.1).1], 0⟩) (fun j => 10 - j.1) ⟨0, Nat.zero_le _⟩ ?_ ?_
          · exact sub0 [0, 1] rfl rfl (by decide) (.cons rfl rfl rfl rfl (les_refl' rfl) (.cons rfl rfl rfl rfl (les_eq (by rw [Nat.sub_self]; simp [outerG, startG]) (flat_noH _ _)) .nil)) (by
              repeat' first
                | exact les_nil
                | refine les_cons ?_ ?_
                | exact le_any
                | exact le_refl rfl
                | exact le_ptr rfl
                | exact le_sl rfl (by simp))
          · rintro ⟨j, hj⟩
            repeat' first
              | refine aw_seq ?_
              | refine aw_region ?_
              | refine aw_lex [] ?_
              | (refine isA ?_; refine do_F rfl ?_)
              | (refine isL ?_; refine lex_F rfl (by kernel_rfl) rfl rfl ?_)
              | (refine isLg rfl ?_; refine lex_S rfl (by kernel_rfl) rfl rfl ?_)
              | refine aops_nil ?_
              | refine lex_done _ rfl (by kernel_rfl) ?_
              | refine aw_ct rfl ?_
              | refine aw_cf rfl ?_
              | refine aw_block ?_
              | refine then_n ?_
              | refine aw_skip ?_
              | refine aw_exit ?_
              | refine then_x ?_
              | refine then_r ?_
              | refine block_x ?_
              | refine block_n ?_
              | refine block_r ?_
              | refine aw_ret ?_
            refine aw_cond rfl (fun h => ?_) (fun h => ?_)
            · have hlj : j < 10 := by have := of_decide_eq_true h; simp only at this; omega
              repeat' first
                | refine aw_seq ?_
                | refine aw_region ?_
                | refine aw_lex [] ?_
                | (refine isA ?_; refine do_F rfl ?_)
                | (refine isL ?_; refine lex_F rfl (by kernel_rfl) rfl rfl ?_)
                | (refine isLg rfl ?_; refine lex_S rfl (by kernel_rfl) rfl rfl ?_)
                | refine aops_nil ?_
                | refine lex_done _ rfl (by kernel_rfl) ?_
                | refine aw_ct rfl ?_
                | refine aw_cf rfl ?_
                | refine aw_block ?_
                | refine then_n ?_
                | refine aw_skip ?_
                | refine aw_exit ?_
                | refine then_x ?_
                | refine then_r ?_
                | refine block_x ?_
                | refine block_n ?_
                | refine block_r ?_
                | refine aw_ret ?_
              refine aw_loop (α := { k : Nat // k ≤ b.act.length }) (fun k => ⟨[.any, .ptr 0 0, .any, .sl 1 0 b.act.length, I (innerG b.act (9 - (j : Int)) (outerG b.act (startG b) j) k.1).2, .any, I (9 - (j : Int)), .any, .any, .any, .any, .any, .any, .any, .any, .any, .any, .any, .any, .any, .any, .any, .any, .any, .any, .any, .any, .any, .any, .any, .any, .any, .any, .any, .any, clL b.act, I b.act.length, I k.1, .any, .any, .any, .any, .any, .any, .any, .any, .any, .any, .any, .any, .any, .any, .any, .any, .any, .any, .any, .any, .any, .any, .any, .any, .any], [⟨24, 4, brE b, 0⟩, regOf intT 3 (innerG b.act (9 - (j : Int)) (outerG b.act (startG b) j) k.1).1], 0⟩) (fun k => b.act.length - k.1) ⟨0, Nat.zero_le _⟩ ?_ ?_
              · exact sub0 [0, 1] rfl rfl (by decide) (.cons rfl rfl rfl rfl (les_refl' rfl) (.cons rfl rfl rfl rfl (les_eq rfl (flat_noH _ _)) .nil)) (by repeat' first | exact les_nil | refine les_cons ?_ ?_ | exact le_any | exact le_refl rfl | exact le_sl rfl rfl | exact le_ptr rfl)
              · rintro ⟨k, hk⟩
                have hgl : (innerG b.act (9 - (j : Int)) (outerG b.act (startG b) j) k).1.length = b.act.length := by rw [innerG_len, outerG_len, startG]; simp
                repeat' first
                  | refine aw_seq ?_
                  | refine aw_region ?_
                  | refine aw_lex [] ?_
                  | (refine isA ?_; refine do_F rfl ?_)
                  | (refine isL ?_; refine lex_F rfl (by kernel_rfl) rfl rfl ?_)
                  | (refine isLg rfl ?_; refine lex_S rfl (by kernel_rfl) rfl rfl ?_)
                  | refine aops_nil ?_
                  | refine lex_done _ rfl (by kernel_rfl) ?_
                  | refine aw_ct rfl ?_
                  | refine aw_cf rfl ?_
                  | refine aw_block ?_
                  | refine then_n ?_
                  | refine aw_skip ?_
                  | refine aw_exit ?_
                  | refine then_x ?_
                  | refine then_r ?_
                  | refine block_x ?_
                  | refine block_n ?_
                  | refine block_r ?_
                  | refine aw_ret ?_
                refine aw_cond rfl (fun h => ?_) (fun h => ?_)
                · have hlk : k < b.act.length := by simpa using h
                  obtain ⟨z, hz⟩ : ∃ z, b.act[k]? = some z := ⟨_, List.getElem?_eq_getElem hlk⟩
                  obtain ⟨g, hg⟩ : ∃ g, (innerG b.act (9 - (j : Int)) (outerG b.act (startG b) j) k).1[k]? = some g := ⟨_, List.getElem?_eq_getElem (by rw [hgl]; exact hlk)⟩
                  have hg1 : (innerG b.act (9 - (j : Int)) (outerG b.act (startG b) j) k).1[(0 + k) * 1]? = some g := by rw [Nat.zero_add, Nat.mul_one]; exact hg
                  repeat' first
                    | refine aw_seq ?_
                    | refine aw_region ?_
                    | refine aw_lex [] ?_
                    | (refine isA ?_; refine do_F rfl ?_)
                    | (refine isL ?_; refine lex_F rfl (by kernel_rfl) rfl rfl ?_)
                    | (refine isLg rfl ?_; refine lex_S rfl (by kernel_rfl) rfl rfl ?_)
                    | (refine isAi (x := .tmp 35) ?_; refine do_R rfl (ia_l (z := z) rfl rfl rfl rfl (Int.natCast_nonneg k) hz) rfl ?_)
                    | (refine isLi (x := .tmp 35) rfl ?_; refine lex_R rfl (by kernel_rfl) rfl (ia_l (z := z) rfl rfl rfl rfl (Int.natCast_nonneg k) hz) rfl ?_)
                    | refine aops_nil ?_
                    | refine lex_done _ rfl (by kernel_rfl) ?_
                    | refine aw_ct rfl ?_
                    | refine aw_cf rfl ?_
                    | refine aw_block ?_
                    | refine then_n ?_
                    | refine aw_skip ?_
                    | refine aw_exit ?_
                    | refine then_x ?_
                    | refine then_r ?_
                    | refine block_x ?_
                    | refine block_n ?_
                    | refine block_r ?_
                    | refine aw_ret ?_
                  refine aw_cond rfl (fun he => ?_) (fun he => ?_)
                  · have he := of_decide_eq_true he
                    repeat' first
                      | refine aw_seq ?_
                      | refine aw_region ?_
                      | refine aw_lex [] ?_
                      | (refine isA ?_; refine do_F rfl ?_)
                      | (refine isL ?_; refine lex_F rfl (by kernel_rfl) rfl rfl ?_)
                      | (refine isLg rfl ?_; refine lex_S rfl (by kernel_rfl) rfl rfl ?_)
                      | (refine isAi (x := .tmp 49) ?_; refine do_R rfl (ia_l (z := z) rfl rfl rfl rfl (Int.natCast_nonneg k) hz) rfl ?_)
                      | (refine isLi (x := .tmp 49) rfl ?_; refine lex_R rfl (by kernel_rfl) rfl (ia_l (z := z) rfl rfl rfl rfl (Int.natCast_nonneg k) hz) rfl ?_)
                      | (refine isAi (x := .tmp 51) ?_; refine do_R rfl (step_ia_sl (j := k) rfl rfl rfl (Nat.zero_le _) rfl rfl (Int.natCast_nonneg k) (by omega)) rfl ?_)
                      | (refine isLi (x := .tmp 51) rfl ?_; refine lex_R rfl (by kernel_rfl) rfl (step_ia_sl (j := k) rfl rfl rfl (Nat.zero_le _) rfl rfl (Int.natCast_nonneg k) (by omega)) rfl ?_)
                      | (refine isAi (x := .tmp 51) ?_; refine do_R rfl (step_ia_sl (j := k) rfl rfl rfl (Nat.zero_le _) rfl rfl (Int.natCast_nonneg k) (by omega)) rfl ?_)
                      | (refine isLi (x := .tmp 51) rfl ?_; refine lex_R rfl (by kernel_rfl) rfl (step_ia_sl (j := k) rfl rfl rfl (Nat.zero_le _) rfl rfl (Int.natCast_nonneg k) (by omega)) rfl ?_)
                      | (refine isAl (x := .tmp 53) ?_; refine do_R rfl (step_load1 (T := intT) (z := g) rfl rfl rfl rfl hg1 rfl) rfl ?_)
                      | (refine isLl (x := .tmp 53) rfl ?_; refine lex_R rfl (by kernel_rfl) rfl (step_load1 (T := intT) (z := g) rfl rfl rfl rfl hg1 rfl) rfl ?_)
                      | (refine isAs ?_; refine do_R rfl (set_l1 (T := intT) (z := IntKind.i64.wrap (g + moreG z (innerG b.act (9 - (j : Int)) (outerG b.act (startG b) j) k).2)) rfl rfl rfl rfl rfl rfl (Nat.lt_of_lt_of_eq (show (0 + k) * 1 < b.act.length by omega) hgl.symm)) rfl ?_)
                      | (refine isLs rfl ?_; refine lex_R rfl (by kernel_rfl) rfl (set_l1 (T := intT) (z := IntKind.i64.wrap (g + moreG z (innerG b.act (9 - (j : Int)) (outerG b.act (startG b) j) k).2)) rfl rfl rfl rfl rfl rfl (Nat.lt_of_lt_of_eq (show (0 + k) * 1 < b.act.length by omega) hgl.symm)) rfl ?_)
                      | refine aops_nil ?_
                      | refine lex_done _ rfl (by kernel_rfl) ?_
                      | refine aw_ct rfl ?_
                      | refine aw_cf rfl ?_
                      | refine aw_block ?_
                      | refine then_n ?_
                      | refine aw_skip ?_
                      | refine aw_exit ?_
                      | refine then_x ?_
                      | refine then_r ?_
                      | refine block_x ?_
                      | refine block_n ?_
                      | refine block_r ?_
                      | refine aw_ret ?_
                    refine ⟨⟨k + 1, hlk⟩, by simp only; omega, ?_⟩
                    have e := innerG_at (p := 9 - (j : Int)) (s := outerG b.act (startG b) j) hz
                    rw [stepG, if_pos he, hg] at e
                    exact sub0 [0, 1] rfl rfl (by decide) (.cons rfl rfl rfl rfl (les_refl' rfl) (.cons rfl rfl rfl rfl (les_eq (by rw [e, Nat.zero_add]; show (regOf intT 3 (List.set _ (k * 1) _)).cells = _; rw [Nat.mul_one]; rfl) (flat_noH _ _)) .nil)) (by
                      repeat' first
                        | exact les_nil
                        | refine les_cons ?_ ?_
                        | exact le_any
                        | exact le_refl rfl
                        | exact le_ptr rfl
                        | exact le_sl rfl rfl
                        | exact le_i hlk (by omega)
                        | (refine le_k ?_; rw [e]; rfl))
                  · have he := of_decide_eq_false he
                    repeat' first
                      | refine aw_seq ?_
                      | refine aw_region ?_
                      | refine aw_lex [] ?_
                      | (refine isA ?_; refine do_F rfl ?_)
                      | (refine isL ?_; refine lex_F rfl (by kernel_rfl) rfl rfl ?_)
                      | (refine isLg rfl ?_; refine lex_S rfl (by kernel_rfl) rfl rfl ?_)
                      | refine aops_nil ?_
                      | refine lex_done _ rfl (by kernel_rfl) ?_
                      | refine aw_ct rfl ?_
                      | refine aw_cf rfl ?_
                      | refine aw_block ?_
                      | refine then_n ?_
                      | refine aw_skip ?_
                      | refine aw_exit ?_
                      | refine then_x ?_
                      | refine then_r ?_
                      | refine block_x ?_
                      | refine block_n ?_
                      | refine block_r ?_
                      | refine aw_ret ?_
                    refine ⟨⟨k + 1, hlk⟩, by simp only; omega, ?_⟩
                    have e := innerG_at (p := 9 - (j : Int)) (s := outerG b.act (startG b) j) hz
                    rw [stepG_no he] at e
                    exact sub0 [0, 1] rfl rfl (by decide) (.cons rfl rfl rfl rfl (les_refl' rfl) (.cons rfl rfl rfl rfl (les_eq (by rw [e]) (flat_noH _ _)) .nil)) (by
                      repeat' first
                        | exact les_nil
                        | refine les_cons ?_ ?_
                        | exact le_any
                        | exact le_refl rfl
                        | exact le_ptr rfl
                        | exact le_sl rfl rfl
                        | exact le_i hlk (by omega)
                        | (refine le_k ?_; rw [e]))
                · have hge : k = b.act.length := by
                    have : ¬ ((k : Int) < b.act.length) := by simpa using h
                    omega
                  subst hge
                  repeat' first
                    | refine aw_seq ?_
                    | refine aw_region ?_
                    | refine aw_lex [] ?_
                    | (refine isA ?_; refine do_F rfl ?_)
                    | (refine isL ?_; refine lex_F rfl (by kernel_rfl) rfl rfl ?_)
                    | (refine isLg rfl ?_; refine lex_S rfl (by kernel_rfl) rfl rfl ?_)
                    | refine aops_nil ?_
                    | refine lex_done _ rfl (by kernel_rfl) ?_
                    | refine aw_ct rfl ?_
                    | refine aw_cf rfl ?_
                    | refine aw_block ?_
                    | refine then_n ?_
                    | refine aw_skip ?_
                    | refine aw_exit ?_
                    | refine then_x ?_
                    | refine then_r ?_
                    | refine block_x ?_
                    | refine block_n ?_
                    | refine block_r ?_
                    | refine aw_ret ?_
                  refine ⟨⟨j + 1, hlj⟩, by simp only; omega, ?_⟩
                  exact sub0 [0, 1] rfl rfl (by decide) (.cons rfl rfl rfl rfl (les_refl' rfl) (.cons rfl rfl rfl rfl (les_eq rfl (flat_noH _ _)) .nil)) (by
                    repeat' first
                      | exact les_nil
                      | refine les_cons ?_ ?_
                      | exact le_any
                      | exact le_refl rfl
                      | exact le_ptr rfl
                      | exact le_sl rfl rfl
                      | exact le_p hlj)
            · have hge : j = 10 := by have := of_decide_eq_false h; simp only at this; omega
              subst hge
              repeat' first
                | refine aw_seq ?_
                | refine aw_region ?_
                | refine aw_lex [] ?_
                | (refine isA ?_; refine do_F rfl ?_)
                | (refine isL ?_; refine lex_F rfl (by kernel_rfl) rfl rfl ?_)
                | (refine isLg rfl ?_; refine lex_S rfl (by kernel_rfl) rfl rfl ?_)
                | exact (by rw [cg, hv]; exact finL (ty := intT) rfl rfl rfl rfl (cgV_len b).symm rfl (flat_int _))
                | refine aops_nil ?_
                | refine lex_done _ rfl (by kernel_rfl) ?_
                | refine aw_ct rfl ?_
                | refine aw_cf rfl ?_
                | refine aw_block ?_
                | refine then_n ?_
                | refine aw_skip ?_
                | refine aw_exit ?_
                | refine then_x ?_
                | refine then_r ?_
                | refine block_x ?_
                | refine block_n ?_
                | refine block_r ?_
                | refine aw_ret ?_
    · refine per_W 3 rfl (by kernel_rfl) rfl rfl (mk_l intT 0 rfl rfl rfl h1 rfl rfl rfl) rfl ?_
      refine per_P 6 rfl (by kernel_rfl) rfl (fun _ => rfl) rfl ?_
      refine per_P 7 rfl (by kernel_rfl) rfl (fun _ => rfl) rfl ?_
      refine per_done (by kernel_rfl) ?_
      repeat' first
        | refine aw_seq ?_
        | refine aw_region ?_
        | refine aw_lex [] ?_
        | (refine isA ?_; refine do_F rfl ?_)
        | (refine isL ?_; refine lex_F rfl (by kernel_rfl) rfl rfl ?_)
        | (refine isLg rfl ?_; refine lex_S rfl (by kernel_rfl) rfl rfl ?_)
        | refine aops_nil ?_
        | refine lex_done _ rfl (by kernel_rfl) ?_
        | refine aw_ct rfl ?_
        | refine aw_cf rfl ?_
        | refine aw_block ?_
        | refine then_n ?_
        | refine aw_skip ?_
        | refine aw_exit ?_
        | refine then_x ?_
        | refine then_r ?_
        | refine block_x ?_
        | refine block_n ?_
        | refine block_r ?_
        | refine aw_ret ?_
      refine aw_loop (α := { i : Nat // i ≤ b.act.length }) (fun i => ⟨[.any, .ptr 0 0, .any, .sl 1 0 b.act.length, I (frI b.pool i.1), .any, .any, .any, .any, .any, .any, .any, .any, .any, .any, .any, .any, .any, .any, .any, I b.act.length, I i.1, .any, .any, .any, .any, .any, .any, .any, .any, .any, .any, .any, .any, .any, .any, .any, .any, .any, .any, .any, .any, .any, .any, .any, .any, .any, .any, .any, .any, .any, .any, .any, .any, .any, .any, .any, .any, .any, .any, .any, .any, .any], [⟨24, 4, brE b, 0⟩, regOf intT 3 (List.replicate i.1 (8 : Int) ++ List.replicate (b.act.length - i.1) 0)], 0⟩) (fun i => b.act.length - i.1) ⟨0, Nat.zero_le _⟩ ?_ ?_
      · exact sub0 [0, 1] rfl rfl (by decide) (.cons rfl rfl rfl rfl (les_refl' rfl) (.cons rfl rfl rfl rfl (les_eq rfl (flat_noH _ _)) .nil)) (by repeat' first | exact les_nil | refine les_cons ?_ ?_ | exact le_any | exact le_refl rfl | exact le_sl rfl rfl | exact le_ptr rfl)
      · rintro ⟨i, hi⟩
        repeat' first
          | refine aw_seq ?_
          | refine aw_region ?_
          | refine aw_lex [] ?_
          | (refine isA ?_; refine do_F rfl ?_)
          | (refine isL ?_; refine lex_F rfl (by kernel_rfl) rfl rfl ?_)
          | (refine isLg rfl ?_; refine lex_S rfl (by kernel_rfl) rfl rfl ?_)
          | refine aops_nil ?_
          | refine lex_done _ rfl (by kernel_rfl) ?_
          | refine aw_ct rfl ?_
          | refine aw_cf rfl ?_
          | refine aw_block ?_
          | refine then_n ?_
          | refine aw_skip ?_
          | refine aw_exit ?_
          | refine then_x ?_
          | refine then_r ?_
          | refine block_x ?_
          | refine block_n ?_
          | refine block_r ?_
          | refine aw_ret ?_
        refine aw_cond rfl (fun h => ?_) (fun h => ?_)
        · have hlt : i < b.act.length := by simpa using h
          repeat' first
            | refine aw_seq ?_
            | refine aw_region ?_
            | refine aw_lex [] ?_
            | (refine isA ?_; refine do_F rfl ?_)
            | (refine isL ?_; refine lex_F rfl (by kernel_rfl) rfl rfl ?_)
            | (refine isLg rfl ?_; refine lex_S rfl (by kernel_rfl) rfl rfl ?_)
            | (refine isAi ?_; refine do_R rfl (step_ia_sl (j := i) rfl rfl rfl (Nat.zero_le _) rfl rfl (Int.natCast_nonneg i) (by omega)) rfl ?_)
            | (refine isLi rfl ?_; refine lex_R rfl (by kernel_rfl) rfl (step_ia_sl (j := i) rfl rfl rfl (Nat.zero_le _) rfl rfl (Int.natCast_nonneg i) (by omega)) rfl ?_)
            | (refine isAs ?_; refine do_R rfl (set_l1 (T := intT) (xs := List.replicate i (8 : Int) ++ List.replicate (b.act.length - i) 0) (z := 8) rfl rfl rfl rfl rfl rfl (Nat.lt_of_lt_of_eq (show (0 + i) * 1 < b.act.length by omega) (by simp; omega))) rfl ?_)
            | (refine isLs rfl ?_; refine lex_R rfl (by kernel_rfl) rfl (set_l1 (T := intT) (xs := List.replicate i (8 : Int) ++ List.replicate (b.act.length - i) 0) (z := 8) rfl rfl rfl rfl rfl rfl (Nat.lt_of_lt_of_eq (show (0 + i) * 1 < b.act.length by omega) (by simp; omega))) rfl ?_)
            | refine aops_nil ?_
            | refine lex_done _ rfl (by kernel_rfl) ?_
            | refine aw_ct rfl ?_
            | refine aw_cf rfl ?_
            | refine aw_block ?_
            | refine then_n ?_
            | refine aw_skip ?_
            | refine aw_exit ?_
            | refine then_x ?_
            | refine then_r ?_
            | refine block_x ?_
            | refine block_n ?_
            | refine block_r ?_
            | refine aw_ret ?_
          refine ⟨⟨i + 1, hlt⟩, by simp only; omega, ?_⟩
          exact sub0 [0, 1] rfl rfl (by decide) (.cons rfl rfl rfl rfl (les_refl' rfl) (.cons rfl rfl rfl rfl (les_eq (by rw [Nat.zero_add]; show (regOf intT 3 (List.set _ (i * 1) _)).cells = _; rw [Nat.mul_one]; exact congrArg intT.flat (fill8 hlt)) (flat_noH _ _)) .nil)) (by repeat' first | exact les_nil | refine les_cons ?_ ?_ | exact le_any | exact le_refl rfl | exact le_sl rfl rfl | exact le_ptr rfl | exact le_i (by assumption) (by omega))
        · have hge : i = b.act.length := by
            have : ¬ ((i : Int) < b.act.length) := by simpa using h
            omega
          subst hge
          repeat' first
            | refine aw_seq ?_
            | refine aw_region ?_
            | refine aw_lex [] ?_
            | (refine isA ?_; refine do_F rfl ?_)
            | (refine isL ?_; refine lex_F rfl (by kernel_rfl) rfl rfl ?_)
            | (refine isLg rfl ?_; refine lex_S rfl (by kernel_rfl) rfl rfl ?_)
            | refine aops_nil ?_
            | refine lex_done _ rfl (by kernel_rfl) ?_
            | refine aw_ct rfl ?_
            | refine aw_cf rfl ?_
            | refine aw_block ?_
            | refine then_n ?_
            | refine aw_skip ?_
            | refine aw_exit ?_
            | refine then_x ?_
            | refine then_r ?_
            | refine block_x ?_
            | refine block_n ?_
            | refine block_r ?_
            | refine aw_ret ?_
          refine aw_loop (α := { j : Nat // j ≤ 10 }) (fun j => ⟨[.any, .ptr 0 0, .any, .sl 1 0 b.act.length, I (outerG b.act (startG b) j.1).2, .any, I (9 - (j.1 : Int)), .any, .any, .any, .any, .any, .any, .any, .any, .any, .any, .any, .any, .any, .any, .any, .any, .any, .any, .any, .any, .any, .any, .any, .any, .any, .any, .any, .any, .any, .any, .any, .any, .any, .any, .any, .any, .any, .any, .any, .any, .any, .any, .any, .any, .any, .any, .any, .any, .any, .any, .any, .any, .any, .any, .any, .any], [⟨24, 4, brE b, 0⟩, regOf intT 3 (outerG b.act (startG b) j.1).1], 0⟩) (fun j => 10 - j.1) ⟨0, Nat.zero_le _⟩ ?_ ?_
          · exact sub0 [0, 1] rfl rfl (by decide) (.cons rfl rfl rfl rfl (les_refl' rfl) (.cons rfl rfl rfl rfl (les_eq (by rw [Nat.sub_self]; simp [outerG, startG]) (flat_noH _ _)) .nil)) (by
              repeat' first
                | exact les_nil
                | refine les_cons ?_ ?_
                | exact le_any
                | exact le_refl rfl
                | exact le_ptr rfl
                | exact le_sl rfl (by simp))
          · rintro ⟨j, hj⟩
            repeat' first
              | refine aw_seq ?_
              | refine aw_region ?_
              | refine aw_lex [] ?_
              | (refine isA ?_; refine do_F rfl ?_)
              | (refine isL ?_; refine lex_F rfl (by kernel_rfl) rfl rfl ?_)
              | (refine isLg rfl ?_; refine lex_S rfl (by kernel_rfl) rfl rfl ?_)
              | refine aops_nil ?_
              | refine lex_done _ rfl (by kernel_rfl) ?_
              | refine aw_ct rfl ?_
              | refine aw_cf rfl ?_
              | refine aw_block ?_
              | refine then_n ?_
              | refine aw_skip ?_
              | refine aw_exit ?_
              | refine then_x ?_
              | refine then_r ?_
              | refine block_x ?_
              | refine block_n ?_
              | refine block_r ?_
              | refine aw_ret ?_
            refine aw_cond rfl (fun h => ?_) (fun h => ?_)
            · have hlj : j < 10 := by have := of_decide_eq_true h; simp only at this; omega
              repeat' first
                | refine aw_seq ?_
                | refine aw_region ?_
                | refine aw_lex [] ?_
                | (refine isA ?_; refine do_F rfl ?_)
                | (refine isL ?_; refine lex_F rfl (by kernel_rfl) rfl rfl ?_)
                | (refine isLg rfl ?_; refine lex_S rfl (by kernel_rfl) rfl rfl ?_)
                | refine aops_nil ?_
                | refine lex_done _ rfl (by kernel_rfl) ?_
                | refine aw_ct rfl ?_
                | refine aw_cf rfl ?_
                | refine aw_block ?_
                | refine then_n ?_
                | refine aw_skip ?_
                | refine aw_exit ?_
                | refine then_x ?_
                | refine then_r ?_
                | refine block_x ?_
                | refine block_n ?_
                | refine block_r ?_
                | refine aw_ret ?_
              refine aw_loop (α := { k : Nat // k ≤ b.act.length }) (fun k => ⟨[.any, .ptr 0 0, .any, .sl 1 0 b.act.length, I (innerG b.act (9 - (j : Int)) (outerG b.act (startG b) j) k.1).2, .any, I (9 - (j : Int)), .any, .any, .any, .any, .any, .any, .any, .any, .any, .any, .any, .any, .any, .any, .any, .any, .any, .any, .any, .any, .any, .any, .any, .any, .any, .any, .any, .any, clL b.act, I b.act.length, I k.1, .any, .any, .any, .any, .any, .any, .any, .any, .any, .any, .any, .any, .any, .any, .any, .any, .any, .any, .any, .any, .any, .any, .any, .any, .any], [⟨24, 4, brE b, 0⟩, regOf intT 3 (innerG b.act (9 - (j : Int)) (outerG b.act (startG b) j) k.1).1], 0⟩) (fun k => b.act.length - k.1) ⟨0, Nat.zero_le _⟩ ?_ ?_
              · exact sub0 [0, 1] rfl rfl (by decide) (.cons rfl rfl rfl rfl (les_refl' rfl) (.cons rfl rfl rfl rfl (les_eq rfl (flat_noH _ _)) .nil)) (by repeat' first | exact les_nil | refine les_cons ?_ ?_ | exact le_any | exact le_refl rfl | exact le_sl rfl rfl | exact le_ptr rfl)
              · rintro ⟨k, hk⟩
                have hgl : (innerG b.act (9 - (j : Int)) (outerG b.act (startG b) j) k).1.length = b.act.length := by rw [innerG_len, outerG_len, startG]; simp
                repeat' first
                  | refine aw_seq ?_
                  | refine aw_region ?_
                  | refine aw_lex [] ?_
                  | (refine isA ?_; refine do_F rfl ?_)
                  | (refine isL ?_; refine lex_F rfl (by kernel_rfl) rfl rfl ?_)
                  | (refine isLg rfl ?_; refine lex_S rfl (by kernel_rfl) rfl rfl ?_)
                  | refine aops_nil ?_
                  | refine lex_done _ rfl (by kernel_rfl) ?_
                  | refine aw_ct rfl ?_
                  | refine aw_cf rfl ?_
                  | refine aw_block ?_
                  | refine then_n ?_
                  | refine aw_skip ?_
                  | refine aw_exit ?_
                  | refine then_x ?_
                  | refine then_r ?_
                  | refine block_x ?_
                  | refine block_n ?_
                  | refine block_r ?_
                  | refine aw_ret ?_
                refine aw_cond rfl (fun h => ?_) (fun h => ?_)
                · have hlk : k < b.act.length := by simpa using h
                  obtain ⟨z, hz⟩ : ∃ z, b.act[k]? = some z := ⟨_, List.getElem?_eq_getElem hlk⟩
                  obtain ⟨g, hg⟩ : ∃ g, (innerG b.act (9 - (j : Int)) (outerG b.act (startG b) j) k).1[k]? = some g := ⟨_, List.getElem?_eq_getElem (by rw [hgl]; exact hlk)⟩
                  have hg1 : (innerG b.act (9 - (j : Int)) (outerG b.act (startG b) j) k).1[(0 + k) * 1]? = some g := by rw [Nat.zero_add, Nat.mul_one]; exact hg
                  repeat' first
                    | refine aw_seq ?_
                    | refine aw_region ?_
                    | refine aw_lex [] ?_
                    | (refine isA ?_; refine do_F rfl ?_)
                    | (refine isL ?_; refine lex_F rfl (by kernel_rfl) rfl rfl ?_)
                    | (refine isLg rfl ?_; refine lex_S rfl (by kernel_rfl) rfl rfl ?_)
                    | (refine isAi (x := .tmp 35) ?_; refine do_R rfl (ia_l (z := z) rfl rfl rfl rfl (Int.natCast_nonneg k) hz) rfl ?_)
                    | (refine isLi (x := .tmp 35) rfl ?_; refine lex_R rfl (by kernel_rfl) rfl (ia_l (z := z) rfl rfl rfl rfl (Int.natCast_nonneg k) hz) rfl ?_)
                    | refine aops_nil ?_
                    | refine lex_done _ rfl (by kernel_rfl) ?_
                    | refine aw_ct rfl ?_
                    | refine aw_cf rfl ?_
                    | refine aw_block ?_
                    | refine then_n ?_
                    | refine aw_skip ?_
                    | refine aw_exit ?_
                    | refine then_x ?_
                    | refine then_r ?_
                    | refine block_x ?_
                    | refine block_n ?_
                    | refine block_r ?_
                    | refine aw_ret ?_
                  refine aw_cond rfl (fun he => ?_) (fun he => ?_)
                  · have he := of_decide_eq_true he
                    repeat' first
                      | refine aw_seq ?_
                      | refine aw_region ?_
                      | refine aw_lex [] ?_
                      | (refine isA ?_; refine do_F rfl ?_)
                      | (refine isL ?_; refine lex_F rfl (by kernel_rfl) rfl rfl ?_)
                      | (refine isLg rfl ?_; refine lex_S rfl (by kernel_rfl) rfl rfl ?_)
                      | (refine isAi (x := .tmp 49) ?_; refine do_R rfl (ia_l (z := z) rfl rfl rfl rfl (Int.natCast_nonneg k) hz) rfl ?_)
                      | (refine isLi (x := .tmp 49) rfl ?_; refine lex_R rfl (by kernel_rfl) rfl (ia_l (z := z) rfl rfl rfl rfl (Int.natCast_nonneg k) hz) rfl ?_)
                      | (refine isAi (x := .tmp 51) ?_; refine do_R rfl (step_ia_sl (j := k) rfl rfl rfl (Nat.zero_le _) rfl rfl (Int.natCast_nonneg k) (by omega)) rfl ?_)
                      | (refine isLi (x := .tmp 51) rfl ?_; refine lex_R rfl (by kernel_rfl) rfl (step_ia_sl (j := k) rfl rfl rfl (Nat.zero_le _) rfl rfl (Int.natCast_nonneg k) (by omega)) rfl ?_)
                      | (refine isAi (x := .tmp 51) ?_; refine do_R rfl (step_ia_sl (j := k) rfl rfl rfl (Nat.zero_le _) rfl rfl (Int.natCast_nonneg k) (by omega)) rfl ?_)
                      | (refine isLi (x := .tmp 51) rfl ?_; refine lex_R rfl (by kernel_rfl) rfl (step_ia_sl (j := k) rfl rfl rfl (Nat.zero_le _) rfl rfl (Int.natCast_nonneg k) (by omega)) rfl ?_)
                      | (refine isAl (x := .tmp 53) ?_; refine do_R rfl (step_load1 (T := intT) (z := g) rfl rfl rfl rfl hg1 rfl) rfl ?_)
                      | (refine isLl (x := .tmp 53) rfl ?_; refine lex_R rfl (by kernel_rfl) rfl (step_load1 (T := intT) (z := g) rfl rfl rfl rfl hg1 rfl) rfl ?_)
                      | (refine isAs ?_; refine do_R rfl (set_l1 (T := intT) (z := IntKind.i64.wrap (g + moreG z (innerG b.act (9 - (j : Int)) (outerG b.act (startG b) j) k).2)) rfl rfl rfl rfl rfl rfl (Nat.lt_of_lt_of_eq (show (0 + k) * 1 < b.act.length by omega) hgl.symm)) rfl ?_)
                      | (refine isLs rfl ?_; refine lex_R rfl (by kernel_rfl) rfl (set_l1 (T := intT) (z := IntKind.i64.wrap (g + moreG z (innerG b.act (9 - (j : Int)) (outerG b.act (startG b) j) k).2)) rfl rfl rfl rfl rfl rfl (Nat.lt_of_lt_of_eq (show (0 + k) * 1 < b.act.length by omega) hgl.symm)) rfl ?_)
                      | refine aops_nil ?_
                      | refine lex_done _ rfl (by kernel_rfl) ?_
                      | refine aw_ct rfl ?_
                      | refine aw_cf rfl ?_
                      | refine aw_block ?_
                      | refine then_n ?_
                      | refine aw_skip ?_
                      | refine aw_exit ?_
                      | refine then_x ?_
                      | refine then_r ?_
                      | refine block_x ?_
                      | refine block_n ?_
                      | refine block_r ?_
                      | refine aw_ret ?_
                    refine ⟨⟨k + 1, hlk⟩, by simp only; omega, ?_⟩
                    have e := innerG_at (p := 9 - (j : Int)) (s := outerG b.act (startG b) j) hz
                    rw [stepG, if_pos he, hg] at e
                    exact sub0 [0, 1] rfl rfl (by decide) (.cons rfl rfl rfl rfl (les_refl' rfl) (.cons rfl rfl rfl rfl (les_eq (by rw [e, Nat.zero_add]; show (regOf intT 3 (List.set _ (k * 1) _)).cells = _; rw [Nat.mul_one]; rfl) (flat_noH _ _)) .nil)) (by
                      repeat' first
                        | exact les_nil
                        | refine les_cons ?_ ?_
                        | exact le_any
                        | exact le_refl rfl
                        | exact le_ptr rfl
                        | exact le_sl rfl rfl
                        | exact le_i hlk (by omega)
                        | (refine le_k ?_; rw [e]; rfl))
                  · have he := of_decide_eq_false he
                    repeat' first
                      | refine aw_seq ?_
                      | refine aw_region ?_
                      | refine aw_lex [] ?_
                      | (refine isA ?_; refine do_F rfl ?_)
                      | (refine isL ?_; refine lex_F rfl (by kernel_rfl) rfl rfl ?_)
                      | (refine isLg rfl ?_; refine lex_S rfl (by kernel_rfl) rfl rfl ?_)
                      | refine aops_nil ?_
                      | refine lex_done _ rfl (by kernel_rfl) ?_
                      | refine aw_ct rfl ?_
                      | refine aw_cf rfl ?_
                      | refine aw_block ?_
                      | refine then_n ?_
                      | refine aw_skip ?_
                      | refine aw_exit ?_
                      | refine then_x ?_
                      | refine then_r ?_
                      | refine block_x ?_
                      | refine block_n ?_
                      | refine block_r ?_
                      | refine aw_ret ?_
                    refine ⟨⟨k + 1, hlk⟩, by simp only; omega, ?_⟩
                    have e := innerG_at (p := 9 - (j : Int)) (s := outerG b.act (startG b) j) hz
                    rw [stepG_no he] at e
                    exact sub0 [0, 1] rfl rfl (by decide) (.cons rfl rfl rfl rfl (les_refl' rfl) (.cons rfl rfl rfl rfl (les_eq (by rw [e]) (flat_noH _ _)) .nil)) (by
                      repeat' first
                        | exact les_nil
                        | refine les_cons ?_ ?_
                        | exact le_any
                        | exact le_refl rfl
                        | exact le_ptr rfl
                        | exact le_sl rfl rfl
                        | exact le_i hlk (by omega)
                        | (refine le_k ?_; rw [e]))
                · have hge : k = b.act.length := by
                    have : ¬ ((k : Int) < b.act.length) := by simpa using h
                    omega
                  subst hge
                  repeat' first
                    | refine aw_seq ?_
                    | refine aw_region ?_
                    | refine aw_lex [] ?_
                    | (refine isA ?_; refine do_F rfl ?_)
                    | (refine isL ?_; refine lex_F rfl (by kernel_rfl) rfl rfl ?_)
                    | (refine isLg rfl ?_; refine lex_S rfl (by kernel_rfl) rfl rfl ?_)
                    | refine aops_nil ?_
                    | refine lex_done _ rfl (by kernel_rfl) ?_
                    | refine aw_ct rfl ?_
                    | refine aw_cf rfl ?_
                    | refine aw_block ?_
                    | refine then_n ?_
                    | refine aw_skip ?_
                    | refine aw_exit ?_
                    | refine then_x ?_
                    | refine then_r ?_
                    | refine block_x ?_
                    | refine block_n ?_
                    | refine block_r ?_
                    | refine aw_ret ?_
                  refine ⟨⟨j + 1, hlj⟩, by simp only; omega, ?_⟩
                  exact sub0 [0, 1] rfl rfl (by decide) (.cons rfl rfl rfl rfl (les_refl' rfl) (.cons rfl rfl rfl rfl (les_eq rfl (flat_noH _ _)) .nil)) (by
                    repeat' first
                      | exact les_nil
                      | refine les_cons ?_ ?_
                      | exact le_any
                      | exact le_refl rfl
                      | exact le_ptr rfl
                      | exact le_sl rfl rfl
                      | exact le_p hlj)
            · have hge : j = 10 := by have := of_decide_eq_false h; simp only at this; omega
              subst hge
              repeat' first
                | refine aw_seq ?_
                | refine aw_region ?_
                | refine aw_lex [] ?_
                | (refine isA ?_; refine do_F rfl ?_)
                | (refine isL ?_; refine lex_F rfl (by kernel_rfl) rfl rfl ?_)
                | (refine isLg rfl ?_; refine lex_S rfl (by kernel_rfl) rfl rfl ?_)
                | exact (by rw [cg, hv]; exact finL (ty := intT) rfl rfl rfl rfl (cgV_len b).symm rfl (flat_int _))
                | refine aops_nil ?_
                | refine lex_done _ rfl (by kernel_rfl) ?_
                | refine aw_ct rfl ?_
                | refine aw_cf rfl ?_
                | refine aw_block ?_
                | refine then_n ?_
                | refine aw_skip ?_
                | refine aw_exit ?_
                | refine then_x ?_
                | refine then_r ?_
                | refine block_x ?_
                | refine block_n ?_
                | refine block_r ?_
                | refine aw_ret ?_

/-! ### Marks -/
def kk (k : Int) : Nat → Int
  | 0 => k
  | n + 1 => IntKind.i64.wrap (kk k n + 1)
theorem kk_val {k : Int} (h0 : 0 ≤ k) (h1 : k ≤ 1000000000000) : ∀ {n : Nat}, n ≤ 1000000000000 → kk k n = k + n
  | 0, _ => by simp [kk]
  | n + 1, hn => by rw [kk, kk_val h0 h1 (by omega), IntKind.wrap_i64]; omega

def mkI (k : Int) (xs : List Int) (i : Nat) : List Int := (List.range i).map (kk k) ++ xs.drop i
theorem mkI_len (k : Int) {xs : List Int} {i : Nat} (h : i ≤ xs.length) : (mkI k xs i).length = xs.length := by simp [mkI]; omega
theorem mk_step {α : Type} {g : Nat → α} {xs : List α} {i : Nat} (h : i < xs.length) : ((List.range i).map g ++ xs.drop i).set i (g i) = (List.range (i + 1)).map g ++ xs.drop (i + 1) := by
  rw [List.set_append_right _ _ (by simp), List.length_map, List.length_range, Nat.sub_self, List.drop_eq_getElem_cons h, List.set_cons_zero, List.range_succ, List.map_append, List.append_assoc]
  rfl

theorem c_markIntS (xs : List Int) (k : Int) (hl : xs.length ≤ 1000000000) : Meets Go.Proofs.Try.prog 33 [.sl 0 0 xs.length, I k] [regOf intT 3 xs] (I (kk k xs.length)) [regOf intT 3 (mkI k xs xs.length)] true := by
  refine meets_of [4] Go.Proofs.Try.func33 rfl rfl ?_
  simp only [Go.Proofs.Try.ntmps33, List.length_cons, List.length_nil, Nat.reduceAdd, Nat.reduceSub, List.replicate_succ, List.replicate_zero, List.cons_append, List.nil_append]
  repeat' first
    | refine aw_seq ?_
    | refine aw_region ?_
    | refine aw_lex [] ?_
    | (refine isA ?_; refine do_F rfl ?_)
    | (refine isL ?_; refine lex_F rfl (by kernel_rfl) rfl rfl ?_)
    | (refine isLg rfl ?_; refine lex_S rfl (by kernel_rfl) rfl rfl ?_)
    | refine aops_nil ?_
    | refine lex_done _ rfl (by kernel_rfl) ?_
    | refine aw_ct rfl ?_
    | refine aw_cf rfl ?_
    | refine aw_block ?_
    | refine then_n ?_
    | refine aw_skip ?_
    | refine aw_exit ?_
    | refine then_x ?_
    | refine then_r ?_
    | refine block_x ?_
    | refine block_n ?_
    | refine block_r ?_
    | refine aw_ret ?_
  refine aw_loop (α := { i : Nat // i ≤ xs.length }) (fun i => ⟨[.sl 0 0 xs.length, I (kk k i.1), .any, .any, .any, I i.1, .any, .any, .any, .any, .any, .any, .any, .any, .any, .any, .any, .any, .any], [regOf intT 3 (mkI k xs i.1)], 1⟩) (fun i => xs.length - i.1) ⟨0, Nat.zero_le _⟩ ?_ ?_
  · exact subm 1 [0] rfl rfl fix1 (by decide) (.cons rfl rfl rfl rfl (les_refl (flat_noH _ _)) .nil) (by repeat' first | exact les_nil | refine les_cons ?_ ?_ | exact le_any | exact le_refl rfl | exact le_sl rfl rfl | exact le_ptr rfl)
  · rintro ⟨i, hi⟩
    have hgl := mkI_len k hi
    repeat' first
      | refine aw_seq ?_
      | refine aw_region ?_
      | refine aw_lex [] ?_
      | (refine isA ?_; refine do_F rfl ?_)
      | (refine isL ?_; refine lex_F rfl (by kernel_rfl) rfl rfl ?_)
      | (refine isLg rfl ?_; refine lex_S rfl (by kernel_rfl) rfl rfl ?_)
      | refine aops_nil ?_
      | refine lex_done _ rfl (by kernel_rfl) ?_
      | refine aw_ct rfl ?_
      | refine aw_cf rfl ?_
      | refine aw_block ?_
      | refine then_n ?_
      | refine aw_skip ?_
      | refine aw_exit ?_
      | refine then_x ?_
      | refine then_r ?_
      | refine block_x ?_
      | refine block_n ?_
      | refine block_r ?_
      | refine aw_ret ?_
    refine aw_cond rfl (fun h => ?_) (fun h => ?_)
    · have hlt : i < xs.length := by simpa using h
      repeat' first
        | refine aw_seq ?_
        | refine aw_region ?_
        | refine aw_lex [] ?_
        | (refine isA ?_; refine do_F rfl ?_)
        | (refine isL ?_; refine lex_F rfl (by kernel_rfl) rfl rfl ?_)
        | (refine isLg rfl ?_; refine lex_S rfl (by kernel_rfl) rfl rfl ?_)
        | (refine isAi ?_; refine do_R rfl (step_ia_sl (j := i) rfl rfl rfl (Nat.zero_le _) rfl rfl (Int.natCast_nonneg i) (by omega)) rfl ?_)
        | (refine isLi rfl ?_; refine lex_R rfl (by kernel_rfl) rfl (step_ia_sl (j := i) rfl rfl rfl (Nat.zero_le _) rfl rfl (Int.natCast_nonneg i) (by omega)) rfl ?_)
        | (refine isAs ?_; refine do_R rfl (set_l1 (T := intT) (xs := mkI k xs i) (z := kk k i) rfl rfl rfl rfl rfl rfl (Nat.lt_of_lt_of_eq (show (0 + i) * 1 < xs.length by omega) hgl.symm)) rfl ?_)
        | (refine isLs rfl ?_; refine lex_R rfl (by kernel_rfl) rfl (set_l1 (T := intT) (xs := mkI k xs i) (z := kk k i) rfl rfl rfl rfl rfl rfl (Nat.lt_of_lt_of_eq (show (0 + i) * 1 < xs.length by omega) hgl.symm)) rfl ?_)
        | refine aops_nil ?_
        | refine lex_done _ rfl (by kernel_rfl) ?_
        | refine aw_ct rfl ?_
        | refine aw_cf rfl ?_
        | refine aw_block ?_
        | refine then_n ?_
        | refine aw_skip ?_
        | refine aw_exit ?_
        | refine then_x ?_
        | refine then_r ?_
        | refine block_x ?_
        | refine block_n ?_
        | refine block_r ?_
        | refine aw_ret ?_
      refine ⟨⟨i + 1, hlt⟩, by simp only; omega, ?_⟩
      exact subm 1 [0] rfl rfl fix1 (by decide) (.cons rfl rfl rfl rfl (les_eq (by rw [Nat.zero_add]; show (regOf intT 3 (List.set _ (i * 1) _)).cells = _; rw [Nat.mul_one]; exact congrArg intT.flat (mk_step (g := kk k) hlt)) (flat_noH _ _)) .nil) (by repeat' first | exact les_nil | refine les_cons ?_ ?_ | exact le_any | exact le_refl rfl | exact le_sl rfl rfl | exact le_ptr rfl | exact le_i (by assumption) (by omega))
    · have hge : i = xs.length := by
        have : ¬ ((i : Int) < xs.length) := by simpa using h
        omega
      subst hge
      repeat' first
        | refine aw_seq ?_
        | refine aw_region ?_
        | refine aw_lex [] ?_
        | (refine isA ?_; refine do_F rfl ?_)
        | (refine isL ?_; refine lex_F rfl (by kernel_rfl) rfl rfl ?_)
        | (refine isLg rfl ?_; refine lex_S rfl (by kernel_rfl) rfl rfl ?_)
        | exact finM 1 [0] fix1 (by decide) rfl (le_refl rfl) (.cons rfl rfl rfl rfl (les_refl (flat_noH _ _)) .nil)
        | refine aops_nil ?_
        | refine lex_done _ rfl (by kernel_rfl) ?_
        | refine aw_ct rfl ?_
        | refine aw_cf rfl ?_
        | refine aw_block ?_
        | refine then_n ?_
        | refine aw_skip ?_
        | refine aw_exit ?_
        | refine then_x ?_
        | refine then_r ?_
        | refine block_x ?_
        | refine block_n ?_
        | refine block_r ?_
        | refine aw_ret ?_

theorem c_heldIntS (xs : List Int) (k : Int) (hl : xs.length ≤ 1000000000) (hk : ∀ i x, xs[i]? = some x → x = kk k i) : Meets Go.Proofs.Try.prog 34 [lstOf intT xs, I k] [] (I (kk k xs.length)) [] false := by
  refine meets_of [4] Go.Proofs.Try.func34 rfl rfl ?_
  simp only [Go.Proofs.Try.ntmps34, List.length_cons, List.length_nil, Nat.reduceAdd, Nat.reduceSub, List.replicate_succ, List.replicate_zero, List.cons_append, List.nil_append]
  repeat' first
    | refine aw_seq ?_
    | refine aw_region ?_
    | refine aw_lex [] ?_
    | (refine isA ?_; refine do_F rfl ?_)
    | (refine isL ?_; refine lex_F rfl (by kernel_rfl) rfl rfl ?_)
    | (refine isLg rfl ?_; refine lex_S rfl (by kernel_rfl) rfl rfl ?_)
    | refine aops_nil ?_
    | refine lex_done _ rfl (by kernel_rfl) ?_
    | refine aw_ct rfl ?_
    | refine aw_cf rfl ?_
    | refine aw_block ?_
    | refine then_n ?_
    | refine aw_skip ?_
    | refine aw_exit ?_
    | refine then_x ?_
    | refine then_r ?_
    | refine block_x ?_
    | refine block_n ?_
    | refine block_r ?_
    | refine aw_ret ?_
  refine aw_loop (α := { i : Nat // i ≤ xs.length }) (fun i => ⟨[lstOf intT xs, I (kk k i.1), .any, .any, .any, I i.1, .any, .any, .any, .any, .any, .any, .any, .any, .any, .any, .any, .any, .any, .any, .any], [], 0⟩) (fun i => xs.length - i.1) ⟨0, Nat.zero_le _⟩ ?_ ?_
  · exact sub0 [] rfl rfl (by decide) .nil (by repeat' first | exact les_nil | refine les_cons ?_ ?_ | exact le_any | exact le_refl rfl | exact le_sl rfl rfl | exact le_ptr rfl)
  · rintro ⟨i, hi⟩
    repeat' first
      | refine aw_seq ?_
      | refine aw_region ?_
      | refine aw_lex [] ?_
      | (refine isA ?_; refine do_F rfl ?_)
      | (refine isL ?_; refine lex_F rfl (by kernel_rfl) rfl rfl ?_)
      | (refine isLg rfl ?_; refine lex_S rfl (by kernel_rfl) rfl rfl ?_)
      | refine aops_nil ?_
      | refine lex_done _ rfl (by kernel_rfl) ?_
      | refine aw_ct rfl ?_
      | refine aw_cf rfl ?_
      | refine aw_block ?_
      | refine then_n ?_
      | refine aw_skip ?_
      | refine aw_exit ?_
      | refine then_x ?_
      | refine then_r ?_
      | refine block_x ?_
      | refine block_n ?_
      | refine block_r ?_
      | refine aw_ret ?_
    refine aw_cond rfl (fun h => ?_) (fun h => ?_)
    · have hlt : i < xs.length := by simpa using h
      obtain ⟨z, hz⟩ : ∃ z, xs[i]? = some z := ⟨_, List.getElem?_eq_getElem hlt⟩
      have hzk := hk i z hz
      repeat' first
        | refine aw_seq ?_
        | refine aw_region ?_
        | refine aw_lex [] ?_
        | (refine isA ?_; refine do_F rfl ?_)
        | (refine isL ?_; refine lex_F rfl (by kernel_rfl) rfl rfl ?_)
        | (refine isLg rfl ?_; refine lex_S rfl (by kernel_rfl) rfl rfl ?_)
        | (refine isAi ?_; refine do_R rfl (ia_l (t := intT) (z := z) rfl rfl rfl rfl (Int.natCast_nonneg i) hz) rfl ?_)
        | (refine isLi rfl ?_; refine lex_R rfl (by kernel_rfl) rfl (ia_l (t := intT) (z := z) rfl rfl rfl rfl (Int.natCast_nonneg i) hz) rfl ?_)
        | refine aops_nil ?_
        | refine lex_done _ rfl (by kernel_rfl) ?_
        | refine aw_ct rfl ?_
        | refine aw_cf rfl ?_
        | refine aw_block ?_
        | refine then_n ?_
        | refine aw_skip ?_
        | refine aw_exit ?_
        | refine then_x ?_
        | refine then_r ?_
        | refine block_x ?_
        | refine block_n ?_
        | refine block_r ?_
        | refine aw_ret ?_
      refine aw_cond rfl (fun h => by simp [hzk] at h) (fun _ => ?_)
      repeat' first
        | refine aw_seq ?_
        | refine aw_region ?_
        | refine aw_lex [] ?_
        | (refine isA ?_; refine do_F rfl ?_)
        | (refine isL ?_; refine lex_F rfl (by kernel_rfl) rfl rfl ?_)
        | (refine isLg rfl ?_; refine lex_S rfl (by kernel_rfl) rfl rfl ?_)
        | refine aops_nil ?_
        | refine lex_done _ rfl (by kernel_rfl) ?_
        | refine aw_ct rfl ?_
        | refine aw_cf rfl ?_
        | refine aw_block ?_
        | refine then_n ?_
        | refine aw_skip ?_
        | refine aw_exit ?_
        | refine then_x ?_
        | refine then_r ?_
        | refine block_x ?_
        | refine block_n ?_
        | refine block_r ?_
        | refine aw_ret ?_
      refine ⟨⟨i + 1, hlt⟩, by simp only; omega, ?_⟩
      exact sub0 [] rfl rfl (by decide) .nil (by repeat' first | exact les_nil | refine les_cons ?_ ?_ | exact le_any | exact le_refl rfl | exact le_sl rfl rfl | exact le_ptr rfl | exact le_i (by assumption) (by omega))
    · have hge : i = xs.length := by
        have : ¬ ((i : Int) < xs.length) := by simpa using h
        omega
      subst hge
      repeat' first
        | refine aw_seq ?_
        | refine aw_region ?_
        | refine aw_lex [] ?_
        | (refine isA ?_; refine do_F rfl ?_)
        | (refine isL ?_; refine lex_F rfl (by kernel_rfl) rfl rfl ?_)
        | (refine isLg rfl ?_; refine lex_S rfl (by kernel_rfl) rfl rfl ?_)
        | exact fin1 rfl rfl rfl
        | refine aops_nil ?_
        | refine lex_done _ rfl (by kernel_rfl) ?_
        | refine aw_ct rfl ?_
        | refine aw_cf rfl ?_
        | refine aw_block ?_
        | refine then_n ?_
        | refine aw_skip ?_
        | refine aw_exit ?_
        | refine then_x ?_
        | refine then_r ?_
        | refine block_x ?_
        | refine block_n ?_
        | refine block_r ?_
        | refine aw_ret ?_

theorem c_eqIntS (xs : List Int) (hl : xs.length ≤ 1000000000) : Meets Go.Proofs.Try.prog 32 [lstOf intT xs, lstOf intT xs] [] (B true) [] false := by
  refine meets_of [4] Go.Proofs.Try.func32 rfl rfl ?_
  simp only [Go.Proofs.Try.ntmps32, List.length_cons, List.length_nil, Nat.reduceAdd, Nat.reduceSub, List.replicate_succ, List.replicate_zero, List.cons_append, List.nil_append]
  repeat' first
    | refine aw_seq ?_
    | refine aw_region ?_
    | refine aw_lex [] ?_
    | (refine isA ?_; refine do_F rfl ?_)
    | (refine isL ?_; refine lex_F rfl (by kernel_rfl) rfl rfl ?_)
    | (refine isLg rfl ?_; refine lex_S rfl (by kernel_rfl) rfl rfl ?_)
    | refine aops_nil ?_
    | refine lex_done _ rfl (by kernel_rfl) ?_
    | refine aw_ct rfl ?_
    | refine aw_cf rfl ?_
    | refine aw_block ?_
    | refine then_n ?_
    | refine aw_skip ?_
    | refine aw_exit ?_
    | refine then_x ?_
    | refine then_r ?_
    | refine block_x ?_
    | refine block_n ?_
    | refine block_r ?_
    | refine aw_ret ?_
  refine aw_cond rfl (fun h => by simp at h) (fun _ => ?_)
  repeat' first
    | refine aw_seq ?_
    | refine aw_region ?_
    | refine aw_lex [] ?_
    | (refine isA ?_; refine do_F rfl ?_)
    | (refine isL ?_; refine lex_F rfl (by kernel_rfl) rfl rfl ?_)
    | (refine isLg rfl ?_; refine lex_S rfl (by kernel_rfl) rfl rfl ?_)
    | refine aops_nil ?_
    | refine lex_done _ rfl (by kernel_rfl) ?_
    | refine aw_ct rfl ?_
    | refine aw_cf rfl ?_
    | refine aw_block ?_
    | refine then_n ?_
    | refine aw_skip ?_
    | refine aw_exit ?_
    | refine then_x ?_
    | refine then_r ?_
    | refine block_x ?_
    | refine block_n ?_
    | refine block_r ?_
    | refine aw_ret ?_
  refine aw_loop (α := { i : Nat // i ≤ xs.length }) (fun i => ⟨[lstOf intT xs, lstOf intT xs, .any, .any, .any, I i.1, .any, .any, .any, .any, .any, .any, .any, .any, .any, .any, .any, .any, .any, .any, .any, .any, .any, .any, .any, .any], [], 0⟩) (fun i => xs.length - i.1) ⟨0, Nat.zero_le _⟩ ?_ ?_
  · exact sub0 [] rfl rfl (by decide) .nil (by repeat' first | exact les_nil | refine les_cons ?_ ?_ | exact le_any | exact le_refl rfl | exact le_sl rfl rfl | exact le_ptr rfl)
  · rintro ⟨i, hi⟩
    repeat' first
      | refine aw_seq ?_
      | refine aw_region ?_
      | refine aw_lex [] ?_
      | (refine isA ?_; refine do_F rfl ?_)
      | (refine isL ?_; refine lex_F rfl (by kernel_rfl) rfl rfl ?_)
      | (refine isLg rfl ?_; refine lex_S rfl (by kernel_rfl) rfl rfl ?_)
      | refine aops_nil ?_
      | refine lex_done _ rfl (by kernel_rfl) ?_
      | refine aw_ct rfl ?_
      | refine aw_cf rfl ?_
      | refine aw_block ?_
      | refine then_n ?_
      | refine aw_skip ?_
      | refine aw_exit ?_
      | refine then_x ?_
      | refine then_r ?_
      | refine block_x ?_
      | refine block_n ?_
      | refine block_r ?_
      | refine aw_ret ?_
    refine aw_cond rfl (fun h => ?_) (fun h => ?_)
    · have hlt : i < xs.length := by simpa using h
      obtain ⟨z, hz⟩ : ∃ z, xs[i]? = some z := ⟨_, List.getElem?_eq_getElem hlt⟩
      repeat' first
        | refine aw_seq ?_
        | refine aw_region ?_
        | refine aw_lex [] ?_
        | (refine isA ?_; refine do_F rfl ?_)
        | (refine isL ?_; refine lex_F rfl (by kernel_rfl) rfl rfl ?_)
        | (refine isLg rfl ?_; refine lex_S rfl (by kernel_rfl) rfl rfl ?_)
        | (refine isAi ?_; refine do_R rfl (ia_l (t := intT) (z := z) rfl rfl rfl rfl (Int.natCast_nonneg i) hz) rfl ?_)
        | (refine isLi rfl ?_; refine lex_R rfl (by kernel_rfl) rfl (ia_l (t := intT) (z := z) rfl rfl rfl rfl (Int.natCast_nonneg i) hz) rfl ?_)
        | refine aops_nil ?_
        | refine lex_done _ rfl (by kernel_rfl) ?_
        | refine aw_ct rfl ?_
        | refine aw_cf rfl ?_
        | refine aw_block ?_
        | refine then_n ?_
        | refine aw_skip ?_
        | refine aw_exit ?_
        | refine then_x ?_
        | refine then_r ?_
        | refine block_x ?_
        | refine block_n ?_
        | refine block_r ?_
        | refine aw_ret ?_
      refine aw_cond rfl (fun h => by simp at h) (fun _ => ?_)
      repeat' first
        | refine aw_seq ?_
        | refine aw_region ?_
        | refine aw_lex [] ?_
        | (refine isA ?_; refine do_F rfl ?_)
        | (refine isL ?_; refine lex_F rfl (by kernel_rfl) rfl rfl ?_)
        | (refine isLg rfl ?_; refine lex_S rfl (by kernel_rfl) rfl rfl ?_)
        | refine aops_nil ?_
        | refine lex_done _ rfl (by kernel_rfl) ?_
        | refine aw_ct rfl ?_
        | refine aw_cf rfl ?_
        | refine aw_block ?_
        | refine then_n ?_
        | refine aw_skip ?_
        | refine aw_exit ?_
        | refine then_x ?_
        | refine then_r ?_
        | refine block_x ?_
        | refine block_n ?_
        | refine block_r ?_
        | refine aw_ret ?_
      refine ⟨⟨i + 1, hlt⟩, by simp only; omega, ?_⟩
      exact sub0 [] rfl rfl (by decide) .nil (by repeat' first | exact les_nil | refine les_cons ?_ ?_ | exact le_any | exact le_refl rfl | exact le_sl rfl rfl | exact le_ptr rfl | exact le_i (by assumption) (by omega))
    · repeat' first
        | refine aw_seq ?_
        | refine aw_region ?_
        | refine aw_lex [] ?_
        | (refine isA ?_; refine do_F rfl ?_)
        | (refine isL ?_; refine lex_F rfl (by kernel_rfl) rfl rfl ?_)
        | (refine isLg rfl ?_; refine lex_S rfl (by kernel_rfl) rfl rfl ?_)
        | exact fin1 rfl rfl rfl
        | refine aops_nil ?_
        | refine lex_done _ rfl (by kernel_rfl) ?_
        | refine aw_ct rfl ?_
        | refine aw_cf rfl ?_
        | refine aw_block ?_
        | refine then_n ?_
        | refine aw_skip ?_
        | refine aw_exit ?_
        | refine then_x ?_
        | refine then_r ?_
        | refine block_x ?_
        | refine block_n ?_
        | refine block_r ?_
        | refine aw_ret ?_
end Go.Proofs.Ytjlhfemfmkdlhaa.Ab
