/-
  What every client is granted.
-/
import Derived.Test.YtjlhfemfmkdlhaaBrkE
namespace Go.Proofs.Ytjlhfemfmkdlhaa.Ab
open Go.RowKit
set_option linter.unusedVariables false
set_option linter.unusedSimpArgs false
set_option maxRecDepth 20000
set_option maxHeartbeats 2000000

def intT : Ty Int := ⟨1, fun n => [I n], fun _ => rfl, by decide, fun r c hc => by
  simp only [List.mem_cons, List.not_mem_nil, or_false] at hc
  subst hc
  exact ⟨rfl, rfl⟩⟩

def frI (pool : Int) : Nat → Int
  | 0 => pool
  | i + 1 => IntKind.i64.wrap (frI pool i - 8)
def moreG (c : Cl) (f : Int) : Int := if IntKind.i64.wrap (c.b - 8) < f then IntKind.i64.wrap (c.b - 8) else f
def stepG (c : Cl) (p : Int) (k : Nat) (s : List Int × Int) : List Int × Int :=
  if c.c = p then (s.1.set k (IntKind.i64.wrap ((s.1[k]?).getD 0 + moreG c s.2)), IntKind.i64.wrap (s.2 - moreG c s.2)) else s
def innerG (xs : List Cl) (p : Int) (s : List Int × Int) : Nat → List Int × Int
  | 0 => s
  | k + 1 => match xs[k]? with
    | some c => stepG c p k (innerG xs p s k)
    | none => innerG xs p s k
def outerG (xs : List Cl) (s : List Int × Int) : Nat → List Int × Int
  | 0 => s
  | j + 1 => innerG xs (9 - j) (outerG xs s j) xs.length
def startG (b : Br) : List Int × Int := (List.replicate b.act.length 8, frI b.pool b.act.length)
def cgV (b : Br) : List Int := (outerG b.act (startG b) 10).1
def cg (b : Br) : List Int := cond (validB b) (cgV b) []

theorem stepG_len (c : Cl) (p : Int) (k : Nat) (s : List Int × Int) : (stepG c p k s).1.length = s.1.length := by
  unfold stepG
  split <;> simp
theorem innerG_len (xs : List Cl) (p : Int) (s : List Int × Int) : ∀ k, (innerG xs p s k).1.length = s.1.length
  | 0 => rfl
  | k + 1 => by
    rw [innerG]
    split
    · rw [stepG_len, innerG_len xs p s k]
    · exact innerG_len xs p s k
theorem outerG_len (xs : List Cl) (s : List Int × Int) : ∀ j, (outerG xs s j).1.length = s.1.length
  | 0 => rfl
  | j + 1 => by rw [outerG, innerG_len, outerG_len xs s j]
theorem innerG_at {xs : List Cl} {p : Int} {s : List Int × Int} {k : Nat} {z : Cl} (hz : xs[k]? = some z) : innerG xs p s (k + 1) = stepG z p k (innerG xs p s k) := by
  rw [innerG, hz]
theorem stepG_no {c : Cl} {p : Int} {k : Nat} {s : List Int × Int} (h : ¬ c.c = p) : stepG c p k s = s := by rw [stepG, if_neg h]
theorem cgV_len (b : Br) : (cgV b).length = b.act.length := by rw [cgV, outerG_len, startG]; simp

theorem le_p {ψ : List Nat} {j : Nat} (h : j < 10) : Le ψ (I (9 - ((j + 1 : Nat) : Int))) (I (IntKind.i64.wrap (9 - (j : Int) - 1))) := le_k (congrArg _ (by rw [IntKind.wrap_i64]; omega))

theorem c_scg (b : Br) (h1 : b.act.length ≤ 1000000000) (h2 : b.wait.length ≤ 1000000000) : Meets Go.Proofs.Try.prog 30 [.agg (brE b)] [] (lstOf intT (cg b)) [] true := by
  refine meets_of [2] Go.Proofs.Try.func30 rfl rfl ?_
  simp only [Go.Proofs.Try.ntmps30, List.length_cons, List.length_nil, Nat.reduceAdd, Nat.reduceSub, List.replicate_succ, List.replicate_zero, List.cons_append, List.nil_append]
  repeat' first
    | refine aw_seq ?_
    | refine aw_region ?_
    | refine aw_lex [] ?_
    | (refine isA ?_; refine do_F rfl ?_)
    | (refine isL ?_; refine lex_F rfl (by kernel_rfl) rfl rfl ?_)
    | (refine isLg rfl ?_; refine lex_S rfl (by kernel_rfl) rfl rfl ?_)
    | (refine isAc 24 ?_; refine do_R rfl (st_call rfl (c_svalid _ h1 h2) (.cons (.same rfl) .nil) rfl) rfl ?_)
    | (refine isLc 24 rfl ?_; refine lex_R rfl (by kernel_rfl) rfl (st_call rfl (c_svalid _ h1 h2) (.cons (.same rfl) .nil) rfl) rfl ?_)
    | refine aops_nil ?_
    | refine lex_done _ rfl (by kernel_rfl) ?_
    | refine aw_ct rfl ?_
    | refine aw_cf rfl ?_
    | refine aw_block ?_
    | refine then_n ?_
    | refine aw_skip ?_
    | refine aw_exit ?_
    | refine then_x ?_
    | refine then_r ?_
    | refine block_x ?_
    | refine block_n ?_
    | refine block_r ?_
    | refine aw_ret ?_
  refine aw_cond rfl (fun hv => ?_) (fun hv => ?_)
  · have hv : validB b = false := by simpa using hv
    repeat' first
      | refine aw_seq ?_
      | refine aw_region ?_
      | refine aw_lex [] ?_
      | (refine isA ?_; refine do_F rfl ?_)
      | (refine isL ?_; refine lex_F rfl (by kernel_rfl) rfl rfl ?_)
      | (refine isLg rfl ?_; refine lex_S rfl (by kernel_rfl) rfl rfl ?_)
      | exact finP rfl (by rw [cg, hv]; exact pur_L rfl rfl rfl rfl)
      | refine aops_nil ?_
      | refine lex_done _ rfl (by kernel_rfl) ?_
      | refine aw_ct rfl ?_
      | refine aw_cf rfl ?_
      | refine aw_block ?_
      | refine then_n ?_
      | refine aw_skip ?_
      | refine aw_exit ?_
      | refine then_x ?_
      | refine then_r ?_
      | refine block_x ?_
      | refine block_n ?_
      | refine block_r ?_
      | refine aw_ret ?_
  · have hv : validB b = true := by simpa using hv
    repeat' first
      | refine aw_seq ?_
      | refine aw_region ?_
      | refine aw_lex [] ?_
      | (refine isA ?_; refine do_F rfl ?_)
      | (refine isL ?_; refine lex_F rfl (by kernel_rfl) rfl rfl ?_)
      | (refine isLg rfl ?_; refine lex_S rfl (by kernel_rfl) rfl rfl ?_)
      | refine aops_nil ?_
      | refine lex_done _ rfl (by kernel_rfl) ?_
      | refine aw_ct rfl ?_
      | refine aw_cf rfl ?_
      | refine aw_block ?_
      | refine then_n ?_
      | refine aw_skip ?_
      | refine aw_exit ?_
      | refine then_x ?_
      | refine then_r ?_
      | refine block_x ?_
      | refine block_n ?_
      | refine block_r ?_
      | refine aw_ret ?_
    refine aw_loop (α := { i : Nat // i ≤ b.act.length }) (fun i => ⟨[.any, .ptr 0 0, .any, .sl 1 0 (List.replicate i.1 (8 : Int)).length, I (frI b.pool i.1), I i.1, .any, .any, .any, .any, .any, .any, .any, .any, .any, .any, .any, .any, .any, .any, .any, .any, .any, .any, .any, .any, .any, .any, .any, .any, .any, .any, .any, .any, .any, .any, .any, .any, .any, .any, .any, .any, .any, .any, .any, .any, .any, .any, .any, .any, .any, .any, .any, .any, .any, .any, .any, .any, .any, .any, .any, .any, .any, .any, .any, .any, .any, .any, .any], [⟨24, 4, brE b, 0⟩, regOf intT 3 (List.replicate i.1 (8 : Int))], 0⟩) (fun i => b.act.length - i.1) ⟨0, Nat.zero_le _⟩ ?_ ?_
    · exact sub0 [0, 1] rfl rfl (by decide) (by repeat' first | exact HLes.nil | refine HLes.cons rfl rfl rfl rfl ?_ ?_ | exact les_nil | refine les_cons ?_ ?_ | exact le_any | exact le_refl rfl | exact le_sl rfl rfl | exact le_ptr rfl) (by repeat' first | exact les_nil | refine les_cons ?_ ?_ | exact le_any | exact le_refl rfl | exact le_sl rfl rfl | exact le_ptr rfl)
    · rintro ⟨i, hi⟩
      repeat' first
        | refine aw_seq ?_
        | refine aw_region ?_
        | refine aw_lex [] ?_
        | (refine isA ?_; refine do_F rfl ?_)
        | (refine isL ?_; refine lex_F rfl (by kernel_rfl) rfl rfl ?_)
        | (refine isLg rfl ?_; refine lex_S rfl (by kernel_rfl) rfl rfl ?_)
        | refine aops_nil ?_
        | refine lex_done _ rfl (by kernel_rfl) ?_
        | refine aw_ct rfl ?_
        | refine aw_cf rfl ?_
        | refine aw_block ?_
        | refine then_n ?_
        | refine aw_skip ?_
        | refine aw_exit ?_
        | refine then_x ?_
        | refine then_r ?_
        | refine block_x ?_
        | refine block_n ?_
        | refine block_r ?_
        | refine aw_ret ?_
      refine aw_cond rfl (fun h => ?_) (fun h => ?_)
      · have hlt : i < b.act.length := by simpa using h
        repeat' first
          | refine aw_seq ?_
          | refine aw_region ?_
          | refine aw_lex [] ?_
          | (refine isA ?_; refine do_F rfl ?_)
          | (refine isL ?_; refine lex_F rfl (by kernel_rfl) rfl rfl ?_)
          | (refine isLg rfl ?_; refine lex_S rfl (by kernel_rfl) rfl rfl ?_)
          | (refine isAp ?_; refine do_R rfl (ap_l (t := intT) (xs := List.replicate i (8 : Int)) (ys := [8]) rfl rfl rfl rfl (src_of rfl rfl rfl rfl) (by simp; omega) rfl) rfl ?_)
          | (refine isLp rfl ?_; refine lex_R rfl (by kernel_rfl) rfl (ap_l (t := intT) (xs := List.replicate i (8 : Int)) (ys := [8]) rfl rfl rfl rfl (src_of rfl rfl rfl rfl) (by simp; omega) rfl) rfl ?_)
          | refine aops_nil ?_
          | refine lex_done _ rfl (by kernel_rfl) ?_
          | refine aw_ct rfl ?_
          | refine aw_cf rfl ?_
          | refine aw_block ?_
          | refine then_n ?_
          | refine aw_skip ?_
          | refine aw_exit ?_
          | refine then_x ?_
          | refine then_r ?_
          | refine block_x ?_
          | refine block_n ?_
          | refine block_r ?_
          | refine aw_ret ?_
        refine ⟨⟨i + 1, hlt⟩, by simp only; omega, ?_⟩
        exact sub0 [0, 3] rfl rfl (by decide) (.cons rfl rfl rfl rfl (les_refl' rfl) (.cons rfl rfl rfl rfl (les_eq (by rw [List.replicate_succ']) (flat_noH _ _)) .nil)) (by
          repeat' first
            | exact les_nil
            | refine les_cons ?_ ?_
            | exact le_any
            | exact le_refl rfl
            | exact le_ptr rfl
            | exact le_i hlt (by omega)
            | exact le_sl rfl (by rw [List.replicate_succ']))
      · have hge : i = b.act.length := by
          have : ¬ ((i : Int) < b.act.length) := by simpa using h
          omega
        subst hge
        repeat' first
          | refine aw_seq ?_
          | refine aw_region ?_
          | refine aw_lex [] ?_
          | (refine isA ?_; refine do_F rfl ?_)
          | (refine isL ?_; refine lex_F rfl (by kernel_rfl) rfl rfl ?_)
          | (refine isLg rfl ?_; refine lex_S rfl (by kernel_rfl) rfl rfl ?_)
          | refine aops_nil ?_
          | refine lex_done _ rfl (by kernel_rfl) ?_
          | refine aw_ct rfl ?_
          | refine aw_cf rfl ?_
          | refine aw_block ?_
          | refine then_n ?_
          | refine aw_skip ?_
          | refine aw_exit ?_
          | refine then_x ?_
          | refine then_r ?_
          | refine block_x ?_
          | refine block_n ?_
          | refine block_r ?_
          | refine aw_ret ?_
        refine aw_loop (α := { j : Nat // j ≤ 10 }) (fun j => ⟨[.any, .ptr 0 0, .any, .sl 1 0 b.act.length, I (outerG b.act (startG b) j.1).2, .any, I (9 - (j.1 : Int)), .any, .any, .any, .any, .any, .any, .any, .any, .any, .any, .any, .any, .any, .any, .any, .any, .any, .any, .any, .any, .any, .any, .any, .any, .any, .any, .any, .any, .any, .any, .any, .any, .any, .any, .any, .any, .any, .any, .any, .any, .any, .any, .any, .any, .any, .any, .any, .any, .any, .any, .any, .any, .any, .any, .any, .any, .any, .any, .any, .any, .any, .any], [⟨24, 4, brE b, 0⟩, regOf intT 3 (outerG b.act (startG b) j.1).1], 0⟩) (fun j => 10 - j.1) ⟨0, Nat.zero_le _⟩ ?_ ?_
        · exact sub0 [0, 1] rfl rfl (by decide) (.cons rfl rfl rfl rfl (les_refl' rfl) (.cons rfl rfl rfl rfl (les_eq rfl (flat_noH _ _)) .nil)) (by
            repeat' first
              | exact les_nil
              | refine les_cons ?_ ?_
              | exact le_any
              | exact le_refl rfl
              | exact le_ptr rfl
              | exact le_sl rfl (by simp))
        · rintro ⟨j, hj⟩
          repeat' first
            | refine aw_seq ?_
            | refine aw_region ?_
            | refine aw_lex [] ?_
            | (refine isA ?_; refine do_F rfl ?_)
            | (refine isL ?_; refine lex_F rfl (by kernel_rfl) rfl rfl ?_)
            | (refine isLg rfl ?_; refine lex_S rfl (by kernel_rfl) rfl rfl ?_)
            | refine aops_nil ?_
            | refine lex_done _ rfl (by kernel_rfl) ?_
            | refine aw_ct rfl ?_
            | refine aw_cf rfl ?_
            | refine aw_block ?_
            | refine then_n ?_
            | refine aw_skip ?_
            | refine aw_exit ?_
            | refine then_x ?_
            | refine then_r ?_
            | refine block_x ?_
            | refine block_n ?_
            | refine block_r ?_
            | refine aw_ret ?_
          refine aw_cond rfl (fun h => ?_) (fun h => ?_)
          · have hlj : j < 10 := by have := of_decide_eq_true h; simp only at this; omega
            repeat' first
              | refine aw_seq ?_
              | refine aw_region ?_
              | refine aw_lex [] ?_
              | (refine isA ?_; refine do_F rfl ?_)
              | (refine isL ?_; refine lex_F rfl (by kernel_rfl) rfl rfl ?_)
              | (refine isLg rfl ?_; refine lex_S rfl (by kernel_rfl) rfl rfl ?_)
              | refine aops_nil ?_
              | refine lex_done _ rfl (by kernel_rfl) ?_
              | refine aw_ct rfl ?_
              | refine aw_cf rfl ?_
              | refine aw_block ?_
              | refine then_n ?_
              | refine aw_skip ?_
              | refine aw_exit ?_
              | refine then_x ?_
              | refine then_r ?_
              | refine block_x ?_
              | refine block_n ?_
              | refine block_r ?_
              | refine aw_ret ?_
            refine aw_loop (α := { k : Nat // k ≤ b.act.length }) (fun k => ⟨[.any, .ptr 0 0, .any, .sl 1 0 b.act.length, I (innerG b.act (9 - (j : Int)) (outerG b.act (startG b) j) k.1).2, .any, I (9 - (j : Int)), I k.1, .any, .any, .any, .any, .any, .any, .any, .any, .any, .any, .any, .any, .any, .any, .any, .any, .any, .any, .any, .any, .any, .any, .any, .any, .any, .any, .any, .any, .any, .any, .any, .any, .any, .any, .any, .any, .any, .any, .any, .any, .any, .any, .any, .any, .any, .any, .any, .any, .any, .any, .any, .any, .any, .any, .any, .any, .any, .any, .any, .any, .any], [⟨24, 4, brE b, 0⟩, regOf intT 3 (innerG b.act (9 - (j : Int)) (outerG b.act (startG b) j) k.1).1], 0⟩) (fun k => b.act.length - k.1) ⟨0, Nat.zero_le _⟩ ?_ ?_
            · exact sub0 [0, 1] rfl rfl (by decide) (.cons rfl rfl rfl rfl (les_refl' rfl) (.cons rfl rfl rfl rfl (les_eq rfl (flat_noH _ _)) .nil)) (by repeat' first | exact les_nil | refine les_cons ?_ ?_ | exact le_any | exact le_refl rfl | exact le_sl rfl rfl | exact le_ptr rfl)
            · rintro ⟨k, hk⟩
              have hgl : (innerG b.act (9 - (j : Int)) (outerG b.act (startG b) j) k).1.length = b.act.length := by rw [innerG_len, outerG_len, startG]; simp
              repeat' first
                | refine aw_seq ?_
                | refine aw_region ?_
                | refine aw_lex [] ?_
                | (refine isA ?_; refine do_F rfl ?_)
                | (refine isL ?_; refine lex_F rfl (by kernel_rfl) rfl rfl ?_)
                | (refine isLg rfl ?_; refine lex_S rfl (by kernel_rfl) rfl rfl ?_)
                | refine aops_nil ?_
                | refine lex_done _ rfl (by kernel_rfl) ?_
                | refine aw_ct rfl ?_
                | refine aw_cf rfl ?_
                | refine aw_block ?_
                | refine then_n ?_
                | refine aw_skip ?_
                | refine aw_exit ?_
                | refine then_x ?_
                | refine then_r ?_
                | refine block_x ?_
                | refine block_n ?_
                | refine block_r ?_
                | refine aw_ret ?_
              refine aw_cond rfl (fun h => ?_) (fun h => ?_)
              · have hlk : k < b.act.length := by simpa using h
                obtain ⟨z, hz⟩ : ∃ z, b.act[k]? = some z := ⟨_, List.getElem?_eq_getElem hlk⟩
                obtain ⟨g, hg⟩ : ∃ g, (innerG b.act (9 - (j : Int)) (outerG b.act (startG b) j) k).1[k]? = some g := ⟨_, List.getElem?_eq_getElem (by rw [hgl]; exact hlk)⟩
                have hg1 : (innerG b.act (9 - (j : Int)) (outerG b.act (startG b) j) k).1[(0 + k) * 1]? = some g := by rw [Nat.zero_add, Nat.mul_one]; exact hg
                repeat' first
                  | refine aw_seq ?_
                  | refine aw_region ?_
                  | refine aw_lex [] ?_
                  | (refine isA ?_; refine do_F rfl ?_)
                  | (refine isL ?_; refine lex_F rfl (by kernel_rfl) rfl rfl ?_)
                  | (refine isLg rfl ?_; refine lex_S rfl (by kernel_rfl) rfl rfl ?_)
                  | (refine isAi (x := .tmp 40) ?_; refine do_R rfl (ia_l (z := z) rfl rfl rfl rfl (Int.natCast_nonneg k) hz) rfl ?_)
                  | (refine isLi (x := .tmp 40) rfl ?_; refine lex_R rfl (by kernel_rfl) rfl (ia_l (z := z) rfl rfl rfl rfl (Int.natCast_nonneg k) hz) rfl ?_)
                  | refine aops_nil ?_
                  | refine lex_done _ rfl (by kernel_rfl) ?_
                  | refine aw_ct rfl ?_
                  | refine aw_cf rfl ?_
                  | refine aw_block ?_
                  | refine then_n ?_
                  | refine aw_skip ?_
                  | refine aw_exit ?_
                  | refine then_x ?_
                  | refine then_r ?_
                  | refine block_x ?_
                  | refine block_n ?_
                  | refine block_r ?_
                  | refine aw_ret ?_
                refine aw_cond rfl (fun he => ?_) (fun he => ?_)
                · have he := of_decide_eq_true he
                  repeat' first
                    | refine aw_seq ?_
                    | refine aw_region ?_
                    | refine aw_lex [] ?_
                    | (refine isA ?_; refine do_F rfl ?_)
                    | (refine isL ?_; refine lex_F rfl (by kernel_rfl) rfl rfl ?_)
                    | (refine isLg rfl ?_; refine lex_S rfl (by kernel_rfl) rfl rfl ?_)
                    | (refine isAi (x := .tmp 49) ?_; refine do_R rfl (ia_l (z := z) rfl rfl rfl rfl (Int.natCast_nonneg k) hz) rfl ?_)
                    | (refine isLi (x := .tmp 49) rfl ?_; refine lex_R rfl (by kernel_rfl) rfl (ia_l (z := z) rfl rfl rfl rfl (Int.natCast_nonneg k) hz) rfl ?_)
                    | (refine isAi (x := .tmp 58) ?_; refine do_R rfl (step_ia_sl (j := k) rfl rfl rfl (Nat.zero_le _) rfl rfl (Int.natCast_nonneg k) (by omega)) rfl ?_)
                    | (refine isLi (x := .tmp 58) rfl ?_; refine lex_R rfl (by kernel_rfl) rfl (step_ia_sl (j := k) rfl rfl rfl (Nat.zero_le _) rfl rfl (Int.natCast_nonneg k) (by omega)) rfl ?_)
                    | (refine isAi (x := .tmp 56) ?_; refine do_R rfl (step_ia_sl (j := k) rfl rfl rfl (Nat.zero_le _) rfl rfl (Int.natCast_nonneg k) (by omega)) rfl ?_)
                    | (refine isLi (x := .tmp 56) rfl ?_; refine lex_R rfl (by kernel_rfl) rfl (step_ia_sl (j := k) rfl rfl rfl (Nat.zero_le _) rfl rfl (Int.natCast_nonneg k) (by omega)) rfl ?_)
                    | (refine isAl (x := .tmp 60) ?_; refine do_R rfl (step_load1 (T := intT) (z := g) rfl rfl rfl rfl hg1 rfl) rfl ?_)
                    | (refine isLl (x := .tmp 60) rfl ?_; refine lex_R rfl (by kernel_rfl) rfl (step_load1 (T := intT) (z := g) rfl rfl rfl rfl hg1 rfl) rfl ?_)
                    | (refine isAs ?_; refine do_R rfl (set_l1 (T := intT) (z := IntKind.i64.wrap (g + moreG z (innerG b.act (9 - (j : Int)) (outerG b.act (startG b) j) k).2)) rfl rfl rfl rfl rfl rfl (Nat.lt_of_lt_of_eq (show (0 + k) * 1 < b.act.length by omega) hgl.symm)) rfl ?_)
                    | (refine isLs rfl ?_; refine lex_R rfl (by kernel_rfl) rfl (set_l1 (T := intT) (z := IntKind.i64.wrap (g + moreG z (innerG b.act (9 - (j : Int)) (outerG b.act (startG b) j) k).2)) rfl rfl rfl rfl rfl rfl (Nat.lt_of_lt_of_eq (show (0 + k) * 1 < b.act.length by omega) hgl.symm)) rfl ?_)
                    | refine aops_nil ?_
                    | refine lex_done _ rfl (by kernel_rfl) ?_
                    | refine aw_ct rfl ?_
                    | refine aw_cf rfl ?_
                    | refine aw_block ?_
                    | refine then_n ?_
                    | refine aw_skip ?_
                    | refine aw_exit ?_
                    | refine then_x ?_
                    | refine then_r ?_
                    | refine block_x ?_
                    | refine block_n ?_
                    | refine block_r ?_
                    | refine aw_ret ?_
                  refine ⟨⟨k + 1, hlk⟩, by simp only; omega, ?_⟩
                  have e := innerG_at (p := 9 - (j : Int)) (s := outerG b.act (startG b) j) hz
                  rw [stepG, if_pos he, hg] at e
                  exact sub0 [0, 1] rfl rfl (by decide) (.cons rfl rfl rfl rfl (les_refl' rfl) (.cons rfl rfl rfl rfl (les_eq (by rw [e, Nat.zero_add]; show (regOf intT 3 (List.set _ (k * 1) _)).cells = _; rw [Nat.mul_one]; rfl) (flat_noH _ _)) .nil)) (by
                    repeat' first
                      | exact les_nil
                      | refine les_cons ?_ ?_
                      | exact le_any
                      | exact le_refl rfl
                      | exact le_ptr rfl
                      | exact le_sl rfl rfl
                      | exact le_i hlk (by omega)
                      | (refine le_k ?_; rw [e]; rfl))
                · have he := of_decide_eq_false he
                  repeat' first
                    | refine aw_seq ?_
                    | refine aw_region ?_
                    | refine aw_lex [] ?_
                    | (refine isA ?_; refine do_F rfl ?_)
                    | (refine isL ?_; refine lex_F rfl (by kernel_rfl) rfl rfl ?_)
                    | (refine isLg rfl ?_; refine lex_S rfl (by kernel_rfl) rfl rfl ?_)
                    | refine aops_nil ?_
                    | refine lex_done _ rfl (by kernel_rfl) ?_
                    | refine aw_ct rfl ?_
                    | refine aw_cf rfl ?_
                    | refine aw_block ?_
                    | refine then_n ?_
                    | refine aw_skip ?_
                    | refine aw_exit ?_
                    | refine then_x ?_
                    | refine then_r ?_
                    | refine block_x ?_
                    | refine block_n ?_
                    | refine block_r ?_
                    | refine aw_ret ?_
                  refine ⟨⟨k + 1, hlk⟩, by simp only; omega, ?_⟩
                  have e := innerG_at (p := 9 - (j : Int)) (s := outerG b.act (startG b) j) hz
                  rw [stepG_no he] at e
                  exact sub0 [0, 1] rfl rfl (by decide) (.cons rfl rfl rfl rfl (les_refl' rfl) (.cons rfl rfl rfl rfl (les_eq (by rw [e]) (flat_noH _ _)) .nil)) (by
                    repeat' first
                      | exact les_nil
                      | refine les_cons ?_ ?_
                      | exact le_any
                      | exact le_refl rfl
                      | exact le_ptr rfl
                      | exact le_sl rfl rfl
                      | exact le_i hlk (by omega)
                      | (refine le_k ?_; rw [e]))
              · have hge : k = b.act.length := by
                  have : ¬ ((k : Int) < b.act.length) := by simpa using h
                  omega
                subst hge
                repeat' first
                  | refine aw_seq ?_
                  | refine aw_region ?_
                  | refine aw_lex [] ?_
                  | (refine isA ?_; refine do_F rfl ?_)
                  | (refine isL ?_; refine lex_F rfl (by kernel_rfl) rfl rfl ?_)
                  | (refine isLg rfl ?_; refine lex_S rfl (by kernel_rfl) rfl rfl ?_)
                  | refine aops_nil ?_
                  | refine lex_done _ rfl (by kernel_rfl) ?_
                  | refine aw_ct rfl ?_
                  | refine aw_cf rfl ?_
                  | refine aw_block ?_
                  | refine then_n ?_
                  | refine aw_skip ?_
                  | refine aw_exit ?_
                  | refine then_x ?_
                  | refine then_r ?_
                  | refine block_x ?_
                  | refine block_n ?_
                  | refine block_r ?_
                  | refine aw_ret ?_
                refine ⟨⟨j + 1, hlj⟩, by simp only; omega, ?_⟩
                exact sub0 [0, 1] rfl rfl (by decide) (.cons rfl rfl rfl rfl (les_refl' rfl) (.cons rfl rfl rfl rfl (les_eq rfl (flat_noH _ _)) .nil)) (by
                  repeat' first
                    | exact les_nil
                    | refine les_cons ?_ ?_
                    | exact le_any
                    | exact le_refl rfl
                    | exact le_ptr rfl
                    | exact le_sl rfl rfl
                    | exact le_p hlj)
          · have hge : j = 10 := by have := of_decide_eq_false h; simp only at this; omega
            subst hge
            repeat' first
              | refine aw_seq ?_
              | refine aw_region ?_
              | refine aw_lex [] ?_
              | (refine isA ?_; refine do_F rfl ?_)
              | (refine isL ?_; refine lex_F rfl (by kernel_rfl) rfl rfl ?_)
              | (refine isLg rfl ?_; refine lex_S rfl (by kernel_rfl) rfl rfl ?_)
              | exact finP rfl (by rw [cg, hv]; exact pur_L rfl rfl rfl (cgV_len b).symm)
              | refine aops_nil ?_
              | refine lex_done _ rfl (by kernel_rfl) ?_
              | refine aw_ct rfl ?_
              | refine aw_cf rfl ?_
              | refine aw_block ?_
              | refine then_n ?_
              | refine aw_skip ?_
              | refine aw_exit ?_
              | refine then_x ?_
              | refine then_r ?_
              | refine block_x ?_
              | refine block_n ?_
              | refine block_r ?_
              | refine aw_ret ?_
end Go.Proofs.Ytjlhfemfmkdlhaa.Ab
