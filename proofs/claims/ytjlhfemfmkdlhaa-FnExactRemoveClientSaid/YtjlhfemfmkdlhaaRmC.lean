/-
  RemoveClient: spec's side.
-/
import Derived.Test.YtjlhfemfmkdlhaaRmB
namespace Go.Proofs.Ytjlhfemfmkdlhaa.Ab
open Go.RowKit
set_option linter.unusedVariables false
set_option linter.unusedSimpArgs false
set_option maxRecDepth 20000
set_option maxHeartbeats 2000000

theorem take_l (xs : List Cl) (k : Nat) : ((clT.flat xs).drop (0 * 3)).take ((k - 0) * 3) = clT.flat (xs.take k) := by
  rw [Nat.zero_mul, List.drop_zero, Nat.sub_zero, show k * 3 = k * clT.n from rfl, flat_take]
theorem drop_l (xs : List Cl) (k : Nat) : ((clT.flat xs).drop (k * 3)).take ((xs.length - k) * 3) = clT.flat (xs.drop k) := by
  rw [show k * 3 = k * clT.n from rfl, flat_drop, show (xs.length - k) * 3 = (xs.length - k) * clT.n from rfl, flat_take, List.take_of_length_le (by simp)]
theorem st_takeL {o : Oper} {ρ : Operand → V} {H : List Reg} {x y : Operand} {xs : List Cl} {k : Nat} {kk : IntKind} (ho : o.op = .slice 22 x none (some y) none) (hx : ρ x = clL xs) (hy : ρ y = .k (.int kk k)) (hk : k ≤ xs.length) : Step Go.Proofs.Try.prog o ρ H (clL (xs.take k)) H := by
  have := step_slice_lst (P := Go.Proofs.Try.prog) (o := o) (ρ := ρ) (H := H) (l := 0) (h := k) ho hx (.no 0) (.yes _ hy) (flat_length clT xs) (by omega) (by omega) (by omega)
  rw [Int.toNat_natCast, show Int.toNat 0 = 0 from rfl] at this
  rw [show clL (xs.take k) = .lst (k - 0) (((clT.flat xs).drop (0 * 3)).take ((k - 0) * 3)) by rw [take_l]; simp [lstOf]; omega]
  exact this
theorem st_dropL {o : Oper} {ρ : Operand → V} {H : List Reg} {x y : Operand} {xs : List Cl} {k : Nat} {j : Int} {kk : IntKind} (ho : o.op = .slice 22 x (some y) none none) (hx : ρ x = clL xs) (hy : ρ y = .k (.int kk j)) (hj : j = (k : Int)) (hk : k ≤ xs.length) : Step Go.Proofs.Try.prog o ρ H (clL (xs.drop k)) H := by
  subst hj
  have := step_slice_lst (P := Go.Proofs.Try.prog) (o := o) (ρ := ρ) (H := H) (l := k) (h := xs.length) ho hx (.yes _ hy) (.no _) (flat_length clT xs) (by omega) (by omega) (by omega)
  rw [Int.toNat_natCast, Int.toNat_natCast] at this
  rw [show clL (xs.drop k) = .lst (xs.length - k) (((clT.flat xs).drop (k * 3)).take ((xs.length - k) * 3)) by rw [drop_l]; simp [lstOf]]
  exact this

theorem src_of2 {K : List Reg} {h : Nat} {e : TypeId} {c : List V} {xs : List Cl} (hr : K[h]? = some ⟨e, 3, c, 0⟩) (hc : c = clT.flat xs) : Src K (.sl h 0 xs.length) xs.length (clT.flat xs) := by
  subst hc
  have := Src.sl (H := K) (h := h) (off := 0) (m := xs.length) (r := ⟨e, 3, clT.flat xs, 0⟩) hr (Nat.zero_le _) (by show (0 + xs.length) * 3 ≤ _; rw [flat_length]; show _ ≤ xs.length * 3; omega)
  have e2 : ((clT.flat xs).drop (0 * 3)).take (xs.length * 3) = clT.flat xs := by rw [Nat.zero_mul, List.drop_zero, List.take_of_length_le]; rw [flat_length]; exact Nat.le_refl _
  rw [show (((⟨e, 3, clT.flat xs, 0⟩ : Reg).cells.drop (0 * (⟨e, 3, clT.flat xs, 0⟩ : Reg).esz)).take (xs.length * (⟨e, 3, clT.flat xs, 0⟩ : Reg).esz)) = clT.flat xs from e2] at this
  exact this
theorem c_drop (xs : List Cl) (k : Nat) (hk : k < xs.length) (hl : xs.length ≤ 1000000000) : Meets Go.Proofs.Try.prog 84 [clL xs, I k] [] (.sl 0 0 (dropC xs k).length) [regOf clT 53 (dropC xs k)] false := by
  have ek : IntKind.i64.wrap ((k : Int) + 1) = ((k + 1 : Nat) : Int) := by rw [IntKind.wrap_i64]; omega
  refine meets_of [4] Go.Proofs.Try.func84 rfl rfl ?_
  simp only [Go.Proofs.Try.ntmps84, List.length_cons, List.length_nil, Nat.reduceAdd, Nat.reduceSub, List.replicate_succ, List.replicate_zero, List.cons_append, List.nil_append]
  repeat' first
    | refine aw_seq ?_
    | refine aw_region ?_
    | (refine isA ?_; refine do_F rfl ?_)
    | (refine isL ?_; refine lex_F rfl (by kernel_rfl) rfl rfl ?_)
    | (refine isLg rfl ?_; refine lex_S rfl (by kernel_rfl) rfl rfl ?_)
    | refine aops_nil ?_
    | refine lex_done _ rfl (by kernel_rfl) ?_
    | refine aw_ct rfl ?_
    | refine aw_cf rfl ?_
    | refine aw_block ?_
    | refine then_n ?_
    | refine aw_skip ?_
    | refine aw_exit ?_
    | refine then_x ?_
    | refine then_r ?_
    | refine block_x ?_
    | refine block_n ?_
    | refine block_r ?_
    | refine aw_ret ?_
  refine aw_per [0, 4, 9] 11 rfl ?_
  refine per_P 1 rfl (by kernel_rfl) rfl (fun _ => rfl) rfl ?_
  refine per_P 2 rfl (by kernel_rfl) rfl (fun _ => rfl) rfl ?_
  refine per_A 3 rfl (by kernel_rfl) rfl (fun _ => st_takeL (k := k) rfl rfl rfl (by omega)) rfl ?_
  refine per_P 5 rfl (by kernel_rfl) rfl (fun _ => rfl) rfl ?_
  refine per_P 6 rfl (by kernel_rfl) rfl (fun _ => rfl) rfl ?_
  refine per_P 7 rfl (by kernel_rfl) rfl (fun _ => rfl) rfl ?_
  refine per_A 8 rfl (by kernel_rfl) rfl (fun _ => st_dropL (k := k + 1) rfl rfl rfl ek (by omega)) rfl ?_
  refine per_WF 0 rfl (by kernel_rfl) rfl rfl rfl rfl ?_
  refine per_W 4 rfl (by kernel_rfl) rfl rfl (ap_l (t := clT) (xs := []) (ys := xs.take k) rfl rfl rfl rfl (.lst _ _) (by simp; omega) rfl) rfl ?_
  refine per_W 9 rfl (by kernel_rfl) rfl rfl (ap_l (t := clT) (xs := [] ++ xs.take k) (ys := xs.drop (k + 1)) rfl rfl rfl rfl (.lst _ _) (by simp; omega) rfl) rfl ?_
  refine per_P 10 rfl (by kernel_rfl) rfl (fun _ => rfl) rfl ?_
  refine per_done (by kernel_rfl) ?_
  repeat' first
    | refine aw_seq ?_
    | refine aw_region ?_
    | refine aw_lex [] ?_
    | (refine isA ?_; refine do_F rfl ?_)
    | (refine isL ?_; refine lex_F rfl (by kernel_rfl) rfl rfl ?_)
    | (refine isLg rfl ?_; refine lex_S rfl (by kernel_rfl) rfl rfl ?_)
    | exact finL (ty := clT) rfl rfl rfl rfl rfl rfl (flat_cl _)
    | refine aops_nil ?_
    | refine lex_done _ rfl (by kernel_rfl) ?_
    | refine aw_ct rfl ?_
    | refine aw_cf rfl ?_
    | refine aw_block ?_
    | refine then_n ?_
    | refine aw_skip ?_
    | refine aw_exit ?_
    | refine then_x ?_
    | refine then_r ?_
    | refine block_x ?_
    | refine block_n ?_
    | refine block_r ?_
    | refine aw_ret ?_

theorem posC_step {xs : List Cl} {c : Cl} {j : Nat} (hj : j ≤ posC xs c) {z : Cl} (hz : xs[j]? = some z) : (z.a < c.a ↔ j < posC xs c) := by
  constructor
  · intro h
    rcases Nat.lt_or_ge j (posC xs c) with h1 | h1
    · exact h1
    · obtain rfl : j = posC xs c := by omega
      exact absurd h (posC_at hz)
  · exact fun h => posC_lt h hz
theorem c_put (xs : List Cl) (c : Cl) (hl : xs.length ≤ 1000000000) : Meets Go.Proofs.Try.prog 85 [clL xs, .agg (clE c)] [] (.sl 0 0 (putC xs c).length) [regOf clT 53 (putC xs c)] false := by
  have hp := posC_le xs c
  refine meets_of [4] Go.Proofs.Try.func85 rfl rfl ?_
  simp only [Go.Proofs.Try.ntmps85, List.length_cons, List.length_nil, Nat.reduceAdd, Nat.reduceSub, List.replicate_succ, List.replicate_zero, List.cons_append, List.nil_append]
  repeat' first
    | refine aw_seq ?_
    | refine aw_region ?_
    | refine aw_lex [] ?_
    | (refine isA ?_; refine do_F rfl ?_)
    | (refine isL ?_; refine lex_F rfl (by kernel_rfl) rfl rfl ?_)
    | (refine isLg rfl ?_; refine lex_S rfl (by kernel_rfl) rfl rfl ?_)
    | refine aops_nil ?_
    | refine lex_done _ rfl (by kernel_rfl) ?_
    | refine aw_ct rfl ?_
    | refine aw_cf rfl ?_
    | refine aw_block ?_
    | refine then_n ?_
    | refine aw_skip ?_
    | refine aw_exit ?_
    | refine then_x ?_
    | refine then_r ?_
    | refine block_x ?_
    | refine block_n ?_
    | refine block_r ?_
    | refine aw_ret ?_
  refine aw_loop (α := { j : Nat // j ≤ posC xs c }) (fun j => ⟨[clL xs, .any, .any, .ptr 0 0, .any, I j.1, .any, .any, .any, .any, .any, .any, .any, .any, .any, .any, .any, .any, .any, .any, .any, .any, .any, .any, .any, .any, .any, .any, .any, .any, .any, .any, .any, .any, .any, .any], [⟨53, 3, clE c, 0⟩], 0⟩) (fun j => posC xs c - j.1) ⟨0, Nat.zero_le _⟩ ?_ ?_
  · exact sub0 [0] rfl rfl (by decide) (.cons rfl rfl rfl rfl (les_refl' rfl) .nil) (by repeat' first | exact les_nil | refine les_cons ?_ ?_ | exact le_any | exact le_refl rfl | exact le_sl rfl rfl | exact le_ptr rfl)
  · rintro ⟨j, hj⟩
    repeat' first
      | refine aw_seq ?_
      | refine aw_region ?_
      | refine aw_lex [] ?_
      | (refine isA ?_; refine do_F rfl ?_)
      | (refine isL ?_; refine lex_F rfl (by kernel_rfl) rfl rfl ?_)
      | (refine isLg rfl ?_; refine lex_S rfl (by kernel_rfl) rfl rfl ?_)
      | refine aops_nil ?_
      | refine lex_done _ rfl (by kernel_rfl) ?_
      | refine aw_ct rfl ?_
      | refine aw_cf rfl ?_
      | refine aw_block ?_
      | refine then_n ?_
      | refine aw_skip ?_
      | refine aw_exit ?_
      | refine then_x ?_
      | refine then_r ?_
      | refine block_x ?_
      | refine block_n ?_
      | refine block_r ?_
      | refine aw_ret ?_
    refine lex_br rfl rfl rfl rfl (fun h1 => ?_) (fun h1 => ?_)
    · have hlt : j < xs.length := by have := of_decide_eq_true h1; simp only at this; omega
      obtain ⟨z, hz⟩ : ∃ z, xs[j]? = some z := ⟨_, List.getElem?_eq_getElem hlt⟩
      have hz2 := posC_step hj hz
      repeat' first
        | refine aw_seq ?_
        | refine aw_region ?_
        | refine aw_lex [] ?_
        | (refine isA ?_; refine do_F rfl ?_)
        | (refine isL ?_; refine lex_F rfl (by kernel_rfl) rfl rfl ?_)
        | (refine isLg rfl ?_; refine lex_S rfl (by kernel_rfl) rfl rfl ?_)
        | (refine isAi ?_; refine do_R rfl (ia_l (t := clT) (z := z) rfl rfl rfl rfl (Int.natCast_nonneg j) hz) rfl ?_)
        | (refine isLi rfl ?_; refine lex_R rfl (by kernel_rfl) rfl (ia_l (t := clT) (z := z) rfl rfl rfl rfl (Int.natCast_nonneg j) hz) rfl ?_)
        | refine aops_nil ?_
        | refine lex_done _ rfl (by kernel_rfl) ?_
        | refine aw_ct rfl ?_
        | refine aw_cf rfl ?_
        | refine aw_block ?_
        | refine then_n ?_
        | refine aw_skip ?_
        | refine aw_exit ?_
        | refine then_x ?_
        | refine then_r ?_
        | refine block_x ?_
        | refine block_n ?_
        | refine block_r ?_
        | refine aw_ret ?_
      refine aw_cond rfl (fun h2 => ?_) (fun h2 => ?_)
      · have h3 := hz2.1 (of_decide_eq_true h2)
        repeat' first
          | refine aw_seq ?_
          | refine aw_region ?_
          | refine aw_lex [] ?_
          | (refine isA ?_; refine do_F rfl ?_)
          | (refine isL ?_; refine lex_F rfl (by kernel_rfl) rfl rfl ?_)
          | (refine isLg rfl ?_; refine lex_S rfl (by kernel_rfl) rfl rfl ?_)
          | refine aops_nil ?_
          | refine lex_done _ rfl (by kernel_rfl) ?_
          | refine aw_ct rfl ?_
          | refine aw_cf rfl ?_
          | refine aw_block ?_
          | refine then_n ?_
          | refine aw_skip ?_
          | refine aw_exit ?_
          | refine then_x ?_
          | refine then_r ?_
          | refine block_x ?_
          | refine block_n ?_
          | refine block_r ?_
          | refine aw_ret ?_
        refine ⟨⟨j + 1, h3⟩, by simp only; omega, ?_⟩
        exact sub0 [0] rfl rfl (by decide) (.cons rfl rfl rfl rfl (les_refl' rfl) .nil) (by repeat' first | exact les_nil | refine les_cons ?_ ?_ | exact le_any | exact le_refl rfl | exact le_ptr rfl | exact le_i hlt (by omega))
      · have h3 : j = posC xs c := by have := of_decide_eq_false h2; have := mt hz2.2 this; omega
        subst h3
        repeat' first
          | refine aw_seq ?_
          | refine aw_region ?_
          | (refine isA ?_; refine do_F rfl ?_)
          | (refine isL ?_; refine lex_F rfl (by kernel_rfl) rfl rfl ?_)
          | (refine isLg rfl ?_; refine lex_S rfl (by kernel_rfl) rfl rfl ?_)
          | refine aops_nil ?_
          | refine lex_done _ rfl (by kernel_rfl) ?_
          | refine aw_ct rfl ?_
          | refine aw_cf rfl ?_
          | refine aw_block ?_
          | refine then_n ?_
          | refine aw_skip ?_
          | refine aw_exit ?_
          | refine then_x ?_
          | refine then_r ?_
          | refine block_x ?_
          | refine block_n ?_
          | refine block_r ?_
          | refine aw_ret ?_
        refine aw_per [1, 5] 7 rfl ?_
        refine per_P 2 rfl (by kernel_rfl) rfl (fun _ => rfl) rfl ?_
        refine per_P 3 rfl (by kernel_rfl) rfl (fun _ => rfl) rfl ?_
        refine per_A 4 rfl (by kernel_rfl) rfl (fun _ => st_dropL (k := posC xs c) rfl rfl rfl rfl hp) rfl ?_
        refine per_R 0 rfl (by kernel_rfl) rfl (rd_ag (v := .agg (clE c)) rfl rfl rfl rfl rfl rfl) rfl ?_
        refine per_WF 1 rfl (by kernel_rfl) rfl rfl rfl rfl ?_
        refine per_W 5 rfl (by kernel_rfl) rfl rfl (ap_l (t := clT) (xs := [c]) (ys := xs.drop (posC xs c)) rfl rfl rfl rfl (.lst _ _) (by simp; omega) rfl) rfl ?_
        refine per_P 6 rfl (by kernel_rfl) rfl (fun _ => rfl) rfl ?_
        refine per_done (by kernel_rfl) ?_
        repeat' first
          | refine aw_seq ?_
          | refine aw_region ?_
          | refine aw_lex [] ?_
          | (refine isA ?_; refine do_F rfl ?_)
          | (refine isL ?_; refine lex_F rfl (by kernel_rfl) rfl rfl ?_)
          | (refine isLg rfl ?_; refine lex_S rfl (by kernel_rfl) rfl rfl ?_)
          | (refine isAx ?_; refine do_R rfl (st_takeL (k := posC xs c) rfl rfl rfl hp) rfl ?_)
          | (refine isLx rfl ?_; refine lex_R rfl (by kernel_rfl) rfl (st_takeL (k := posC xs c) rfl rfl rfl hp) rfl ?_)
          | (refine isAp ?_; refine do_R rfl (ap_l (t := clT) (xs := []) (ys := xs.take (posC xs c)) rfl rfl rfl rfl (.lst _ _) (by simp; omega) rfl) rfl ?_)
          | (refine isLp rfl ?_; refine lex_R rfl (by kernel_rfl) rfl (ap_l (t := clT) (xs := []) (ys := xs.take (posC xs c)) rfl rfl rfl rfl (.lst _ _) (by simp; omega) rfl) rfl ?_)
          | (refine isAp ?_; refine do_R rfl (ap_l (t := clT) (xs := [] ++ xs.take (posC xs c)) (ys := [c] ++ xs.drop (posC xs c)) rfl rfl rfl rfl (src_of2 rfl rfl) (by simp; omega) rfl) rfl ?_)
          | (refine isLp rfl ?_; refine lex_R rfl (by kernel_rfl) rfl (ap_l (t := clT) (xs := [] ++ xs.take (posC xs c)) (ys := [c] ++ xs.drop (posC xs c)) rfl rfl rfl rfl (src_of2 rfl rfl) (by simp; omega) rfl) rfl ?_)
          | exact finL (ty := clT) rfl rfl rfl rfl rfl rfl (flat_cl _)
          | refine aops_nil ?_
          | refine lex_done _ rfl (by kernel_rfl) ?_
          | refine aw_ct rfl ?_
          | refine aw_cf rfl ?_
          | refine aw_block ?_
          | refine then_n ?_
          | refine aw_skip ?_
          | refine aw_exit ?_
          | refine then_x ?_
          | refine then_r ?_
          | refine block_x ?_
          | refine block_n ?_
          | refine block_r ?_
          | refine aw_ret ?_
    · have h3 : j = posC xs c := by have := of_decide_eq_false h1; simp only at this; omega
      subst h3
      repeat' first
        | refine aw_seq ?_
        | refine aw_region ?_
        | (refine isA ?_; refine do_F rfl ?_)
        | (refine isL ?_; refine lex_F rfl (by kernel_rfl) rfl rfl ?_)
        | (refine isLg rfl ?_; refine lex_S rfl (by kernel_rfl) rfl rfl ?_)
        | refine aops_nil ?_
        | refine lex_done _ rfl (by kernel_rfl) ?_
        | refine aw_ct rfl ?_
        | refine aw_cf rfl ?_
        | refine aw_block ?_
        | refine then_n ?_
        | refine aw_skip ?_
        | refine aw_exit ?_
        | refine then_x ?_
        | refine then_r ?_
        | refine block_x ?_
        | refine block_n ?_
        | refine block_r ?_
        | refine aw_ret ?_
      refine aw_per [1, 5] 7 rfl ?_
      refine per_P 2 rfl (by kernel_rfl) rfl (fun _ => rfl) rfl ?_
      refine per_P 3 rfl (by kernel_rfl) rfl (fun _ => rfl) rfl ?_
      refine per_A 4 rfl (by kernel_rfl) rfl (fun _ => st_dropL (k := posC xs c) rfl rfl rfl rfl hp) rfl ?_
      refine per_R 0 rfl (by kernel_rfl) rfl (rd_ag (v := .agg (clE c)) rfl rfl rfl rfl rfl rfl) rfl ?_
      refine per_WF 1 rfl (by kernel_rfl) rfl rfl rfl rfl ?_
      refine per_W 5 rfl (by kernel_rfl) rfl rfl (ap_l (t := clT) (xs := [c]) (ys := xs.drop (posC xs c)) rfl rfl rfl rfl (.lst _ _) (by simp; omega) rfl) rfl ?_
      refine per_P 6 rfl (by kernel_rfl) rfl (fun _ => rfl) rfl ?_
      refine per_done (by kernel_rfl) ?_
      repeat' first
        | refine aw_seq ?_
        | refine aw_region ?_
        | refine aw_lex [] ?_
        | (refine isA ?_; refine do_F rfl ?_)
        | (refine isL ?_; refine lex_F rfl (by kernel_rfl) rfl rfl ?_)
        | (refine isLg rfl ?_; refine lex_S rfl (by kernel_rfl) rfl rfl ?_)
        | (refine isAx ?_; refine do_R rfl (st_takeL (k := posC xs c) rfl rfl rfl hp) rfl ?_)
        | (refine isLx rfl ?_; refine lex_R rfl (by kernel_rfl) rfl (st_takeL (k := posC xs c) rfl rfl rfl hp) rfl ?_)
        | (refine isAp ?_; refine do_R rfl (ap_l (t := clT) (xs := []) (ys := xs.take (posC xs c)) rfl rfl rfl rfl (.lst _ _) (by simp; omega) rfl) rfl ?_)
        | (refine isLp rfl ?_; refine lex_R rfl (by kernel_rfl) rfl (ap_l (t := clT) (xs := []) (ys := xs.take (posC xs c)) rfl rfl rfl rfl (.lst _ _) (by simp; omega) rfl) rfl ?_)
        | (refine isAp ?_; refine do_R rfl (ap_l (t := clT) (xs := [] ++ xs.take (posC xs c)) (ys := [c] ++ xs.drop (posC xs c)) rfl rfl rfl rfl (src_of2 rfl rfl) (by simp; omega) rfl) rfl ?_)
        | (refine isLp rfl ?_; refine lex_R rfl (by kernel_rfl) rfl (ap_l (t := clT) (xs := [] ++ xs.take (posC xs c)) (ys := [c] ++ xs.drop (posC xs c)) rfl rfl rfl rfl (src_of2 rfl rfl) (by simp; omega) rfl) rfl ?_)
        | exact finL (ty := clT) rfl rfl rfl rfl rfl rfl (flat_cl _)
        | refine aops_nil ?_
        | refine lex_done _ rfl (by kernel_rfl) ?_
        | refine aw_ct rfl ?_
        | refine aw_cf rfl ?_
        | refine aw_block ?_
        | refine then_n ?_
        | refine aw_skip ?_
        | refine aw_exit ?_
        | refine then_x ?_
        | refine then_r ?_
        | refine block_x ?_
        | refine block_n ?_
        | refine block_r ?_
        | refine aw_ret ?_

theorem rmK {b : Br} {id : Int} : (rmV b id).1.act.length ≤ b.act.length + 1 ∧ (rmV b id).1.wait.length ≤ b.wait.length + 1 := rmV_len b id
theorem c_srm (b : Br) (id : Int) (h1 : b.act.length ≤ 1000000000) (h2 : b.wait.length ≤ 1000000000) : Meets Go.Proofs.Try.prog 40 [.agg (brE b), I id] [] (srR (rmV b id)) (brK (rmV b id).1.act (rmV b id).1.wait) false := by
  refine meets_ofCT 4 24 [5] Go.Proofs.Try.func40 rfl rfl rfl ?_
  simp only [Go.Proofs.Try.ntmps40, List.length_cons, List.length_nil, Nat.reduceAdd, Nat.reduceSub, List.replicate_succ, List.replicate_zero, List.cons_append, List.nil_append]
  repeat' first
    | refine aw_seq ?_
    | refine aw_region ?_
    | refine aw_lex [] ?_
    | (refine isA ?_; refine do_F rfl ?_)
    | (refine isL ?_; refine lex_F rfl (by kernel_rfl) rfl rfl ?_)
    | (refine isLg rfl ?_; refine lex_S rfl (by kernel_rfl) rfl rfl ?_)
    | (refine isAc 79 ?_; refine do_R rfl (st_callK rfl (c_copy _ h1 h2) (.cons (.same rfl) .nil) (brK_noH _ _) rfl rfl) rfl ?_)
    | (refine isLc 79 rfl ?_; refine lex_R rfl (by kernel_rfl) rfl (st_callK rfl (c_copy _ h1 h2) (.cons (.same rfl) .nil) (brK_noH _ _) rfl rfl) rfl ?_)
    | (refine isAc 24 ?_; refine do_R rfl (st_call rfl (c_svalid _ h1 h2) (.cons (.same rfl) .nil) rfl) rfl ?_)
    | (refine isLc 24 rfl ?_; refine lex_R rfl (by kernel_rfl) rfl (st_call rfl (c_svalid _ h1 h2) (.cons (.same rfl) .nil) rfl) rfl ?_)
    | refine aops_nil ?_
    | refine lex_done _ rfl (by kernel_rfl) ?_
    | refine aw_ct rfl ?_
    | refine aw_cf rfl ?_
    | refine aw_block ?_
    | refine then_n ?_
    | refine aw_skip ?_
    | refine aw_exit ?_
    | refine then_x ?_
    | refine then_r ?_
    | refine block_x ?_
    | refine block_n ?_
    | refine block_r ?_
    | refine aw_ret ?_
  refine aw_cond rfl (fun k1 => ?_) (fun k1 => ?_)
  · have k1 : validB b = false := by simpa using k1
    repeat' first
      | refine aw_seq ?_
      | refine aw_region ?_
      | refine aw_lex [] ?_
      | (refine isA ?_; refine do_F rfl ?_)
      | (refine isL ?_; refine lex_F rfl (by kernel_rfl) rfl rfl ?_)
      | (refine isLg rfl ?_; refine lex_S rfl (by kernel_rfl) rfl rfl ?_)
      | exact (by rw [rm_no k1]; exact finMCTf [2, 3] (by decide) (cell_is rfl rfl rfl rfl rfl) (le_tup (les_cons (le_agg (les_cons (le_refl rfl) (les_cons (le_refl rfl) (les_cons (le_sl rfl rfl) (les_cons (le_sl rfl rfl) les_nil))))) (les_cons (le_refl rfl) les_nil))) (.cons rfl rfl rfl rfl (les_eq rfl (flat_noH _ _)) (.cons rfl rfl rfl rfl (les_eq rfl (flat_noH _ _)) .nil)) rfl (brK_flat _ _))
      | refine aops_nil ?_
      | refine lex_done _ rfl (by kernel_rfl) ?_
      | refine aw_ct rfl ?_
      | refine aw_cf rfl ?_
      | refine aw_block ?_
      | refine then_n ?_
      | refine aw_skip ?_
      | refine aw_exit ?_
      | refine then_x ?_
      | refine then_r ?_
      | refine block_x ?_
      | refine block_n ?_
      | refine block_r ?_
      | refine aw_ret ?_
  have k1 : validB b = true := by simpa using k1
  repeat' first
    | refine aw_seq ?_
    | refine aw_region ?_
    | refine aw_lex [] ?_
    | (refine isA ?_; refine do_F rfl ?_)
    | (refine isL ?_; refine lex_F rfl (by kernel_rfl) rfl rfl ?_)
    | (refine isLg rfl ?_; refine lex_S rfl (by kernel_rfl) rfl rfl ?_)
    | (refine isAc 78 ?_; refine do_R rfl (st_call rfl (c_at b.wait id h2) (.cons (.same rfl) (.cons (.same rfl) .nil)) rfl) rfl ?_)
    | (refine isLc 78 rfl ?_; refine lex_R rfl (by kernel_rfl) rfl (st_call rfl (c_at b.wait id h2) (.cons (.same rfl) (.cons (.same rfl) .nil)) rfl) rfl ?_)
    | refine aops_nil ?_
    | refine lex_done _ rfl (by kernel_rfl) ?_
    | refine aw_ct rfl ?_
    | refine aw_cf rfl ?_
    | refine aw_block ?_
    | refine then_n ?_
    | refine aw_skip ?_
    | refine aw_exit ?_
    | refine then_x ?_
    | refine then_r ?_
    | refine block_x ?_
    | refine block_n ?_
    | refine block_r ?_
    | refine aw_ret ?_
  refine aw_cond rfl (fun k2 => ?_) (fun k2 => ?_)
  · obtain ⟨z, _, hz, _⟩ := at_some k2
    have hlt := (List.getElem?_eq_some_iff.1 hz).1
    have e := Int.toNat_of_nonneg (of_decide_eq_true k2)
    have hr := rm_wait k1 k2
    generalize (idxC b.wait id).toNat = i at hlt e hz hr
    rw [← e]
    repeat' first
      | refine aw_seq ?_
      | refine aw_region ?_
      | refine aw_lex [] ?_
      | (refine isA ?_; refine do_F rfl ?_)
      | (refine isL ?_; refine lex_F rfl (by kernel_rfl) rfl rfl ?_)
      | (refine isLg rfl ?_; refine lex_S rfl (by kernel_rfl) rfl rfl ?_)
      | (refine isAc 84 ?_; refine do_R rfl (st_callK rfl (c_drop b.wait i hlt h2) (.cons (pur_l rfl rfl) (.cons (.same rfl) .nil)) (fun q hq => by simp at hq; subst hq; exact flat_noH _ _) rfl rfl) rfl ?_)
      | (refine isLc 84 rfl ?_; refine lex_R rfl (by kernel_rfl) rfl (st_callK rfl (c_drop b.wait i hlt h2) (.cons (pur_l rfl rfl) (.cons (.same rfl) .nil)) (fun q hq => by simp at hq; subst hq; exact flat_noH _ _) rfl rfl) rfl ?_)
      | exact (by rw [hr]; exact finMCTf [2, 5] (by decide) (cell_is rfl rfl rfl rfl rfl) (le_tup (les_cons (le_agg (les_cons (le_refl rfl) (les_cons (le_refl rfl) (les_cons (le_sl rfl rfl) (les_cons (le_sl rfl rfl) les_nil))))) (les_cons (le_refl rfl) les_nil))) (.cons rfl rfl rfl rfl (les_eq rfl (flat_noH _ _)) (.cons rfl rfl rfl rfl (les_eq rfl (flat_noH _ _)) .nil)) rfl (brK_flat _ _))
      | refine aops_nil ?_
      | refine lex_done _ rfl (by kernel_rfl) ?_
      | refine aw_ct rfl ?_
      | refine aw_cf rfl ?_
      | refine aw_block ?_
      | refine then_n ?_
      | refine aw_skip ?_
      | refine aw_exit ?_
      | refine then_x ?_
      | refine then_r ?_
      | refine block_x ?_
      | refine block_n ?_
      | refine block_r ?_
      | refine aw_ret ?_
  repeat' first
    | refine aw_seq ?_
    | refine aw_region ?_
    | refine aw_lex [] ?_
    | (refine isA ?_; refine do_F rfl ?_)
    | (refine isL ?_; refine lex_F rfl (by kernel_rfl) rfl rfl ?_)
    | (refine isLg rfl ?_; refine lex_S rfl (by kernel_rfl) rfl rfl ?_)
    | (refine isAc 78 ?_; refine do_R rfl (st_call rfl (c_at b.act id h1) (.cons (.same rfl) (.cons (.same rfl) .nil)) rfl) rfl ?_)
    | (refine isLc 78 rfl ?_; refine lex_R rfl (by kernel_rfl) rfl (st_call rfl (c_at b.act id h1) (.cons (.same rfl) (.cons (.same rfl) .nil)) rfl) rfl ?_)
    | refine aops_nil ?_
    | refine lex_done _ rfl (by kernel_rfl) ?_
    | refine aw_ct rfl ?_
    | refine aw_cf rfl ?_
    | refine aw_block ?_
    | refine then_n ?_
    | refine aw_skip ?_
    | refine aw_exit ?_
    | refine then_x ?_
    | refine then_r ?_
    | refine block_x ?_
    | refine block_n ?_
    | refine block_r ?_
    | refine aw_ret ?_
  refine aw_cond rfl (fun k3 => ?_) (fun k3 => ?_)
  · have k3' : decide (0 ≤ idxC b.act id) = false := by have := of_decide_eq_true k3; exact decide_eq_false (by omega)
    repeat' first
      | refine aw_seq ?_
      | refine aw_region ?_
      | refine aw_lex [] ?_
      | (refine isA ?_; refine do_F rfl ?_)
      | (refine isL ?_; refine lex_F rfl (by kernel_rfl) rfl rfl ?_)
      | (refine isLg rfl ?_; refine lex_S rfl (by kernel_rfl) rfl rfl ?_)
      | exact (by rw [rm_none k2 k3']; exact finMCTf [2, 3] (by decide) (cell_is rfl rfl rfl rfl rfl) (le_tup (les_cons (le_agg (les_cons (le_refl rfl) (les_cons (le_refl rfl) (les_cons (le_sl rfl rfl) (les_cons (le_sl rfl rfl) les_nil))))) (les_cons (le_refl rfl) les_nil))) (.cons rfl rfl rfl rfl (les_eq rfl (flat_noH _ _)) (.cons rfl rfl rfl rfl (les_eq rfl (flat_noH _ _)) .nil)) rfl (brK_flat _ _))
      | refine aops_nil ?_
      | refine lex_done _ rfl (by kernel_rfl) ?_
      | refine aw_ct rfl ?_
      | refine aw_cf rfl ?_
      | refine aw_block ?_
      | refine then_n ?_
      | refine aw_skip ?_
      | refine aw_exit ?_
      | refine then_x ?_
      | refine then_r ?_
      | refine block_x ?_
      | refine block_n ?_
      | refine block_r ?_
      | refine aw_ret ?_
  have k3' : decide (0 ≤ idxC b.act id) = true := by have := of_decide_eq_false k3; exact decide_eq_true (by omega)
  obtain ⟨z, _, hz, _⟩ := at_some k3'
  have hlt := (List.getElem?_eq_some_iff.1 hz).1
  have e := Int.toNat_of_nonneg (of_decide_eq_true k3')
  have hr0 := fun h3 => rm_act0 (id := id) k1 k2 k3' h3
  have hr1 := fun c h3 => rm_act1 (id := id) (c := c) k1 k2 k3' h3
  generalize (idxC b.act id).toNat = i at hlt e hz hr0 hr1
  rw [← e]
  have hdl := dropC_len hlt
  repeat' first
    | refine aw_seq ?_
    | refine aw_region ?_
    | refine aw_lex [] ?_
    | (refine isA ?_; refine do_F rfl ?_)
    | (refine isL ?_; refine lex_F rfl (by kernel_rfl) rfl rfl ?_)
    | (refine isLg rfl ?_; refine lex_S rfl (by kernel_rfl) rfl rfl ?_)
    | (refine isAc 84 ?_; refine do_R rfl (st_callK rfl (c_drop b.act i hlt h1) (.cons (pur_l rfl rfl) (.cons (.same rfl) .nil)) (fun q hq => by simp at hq; subst hq; exact flat_noH _ _) rfl rfl) rfl ?_)
    | (refine isLc 84 rfl ?_; refine lex_R rfl (by kernel_rfl) rfl (st_callK rfl (c_drop b.act i hlt h1) (.cons (pur_l rfl rfl) (.cons (.same rfl) .nil)) (fun q hq => by simp at hq; subst hq; exact flat_noH _ _) rfl rfl) rfl ?_)
    | refine aops_nil ?_
    | refine lex_done _ rfl (by kernel_rfl) ?_
    | refine aw_ct rfl ?_
    | refine aw_cf rfl ?_
    | refine aw_block ?_
    | refine then_n ?_
    | refine aw_skip ?_
    | refine aw_exit ?_
    | refine then_x ?_
    | refine then_r ?_
    | refine block_x ?_
    | refine block_n ?_
    | refine block_r ?_
    | refine aw_ret ?_
  refine aw_cond rfl (fun k4 => ?_) (fun k4 => ?_)
  rotate_left
  · have h0 : b.wait.length = 0 := by have := of_decide_eq_false k4; omega
    repeat' first
      | refine aw_seq ?_
      | refine aw_region ?_
      | refine aw_lex [] ?_
      | (refine isA ?_; refine do_F rfl ?_)
      | (refine isL ?_; refine lex_F rfl (by kernel_rfl) rfl rfl ?_)
      | (refine isLg rfl ?_; refine lex_S rfl (by kernel_rfl) rfl rfl ?_)
      | exact (by rw [hr0 h0]; exact finMCTf [5, 3] (by decide) (cell_is rfl rfl rfl rfl rfl) (le_tup (les_cons (le_agg (les_cons (le_refl rfl) (les_cons (le_refl rfl) (les_cons (le_sl rfl rfl) (les_cons (le_sl rfl rfl) les_nil))))) (les_cons (le_refl rfl) les_nil))) (.cons rfl rfl rfl rfl (les_eq rfl (flat_noH _ _)) (.cons rfl rfl rfl rfl (les_eq rfl (flat_noH _ _)) .nil)) rfl (brK_flat _ _))
      | refine aops_nil ?_
      | refine lex_done _ rfl (by kernel_rfl) ?_
      | refine aw_ct rfl ?_
      | refine aw_cf rfl ?_
      | refine aw_block ?_
      | refine then_n ?_
      | refine aw_skip ?_
      | refine aw_exit ?_
      | refine then_x ?_
      | refine then_r ?_
      | refine block_x ?_
      | refine block_n ?_
      | refine block_r ?_
      | refine aw_ret ?_
  have h0 : 0 < b.wait.length := by have := of_decide_eq_true k4; omega
  have hbl := bestC_lt h0
  obtain ⟨w, hw⟩ : ∃ w, b.wait[bestC b.wait]? = some w := ⟨_, List.getElem?_eq_getElem hbl⟩
  have hr := hr1 w hw
  repeat' first
    | refine aw_seq ?_
    | refine aw_region ?_
    | refine aw_lex [] ?_
    | (refine isA ?_; refine do_F rfl ?_)
    | (refine isL ?_; refine lex_F rfl (by kernel_rfl) rfl rfl ?_)
    | (refine isLg rfl ?_; refine lex_S rfl (by kernel_rfl) rfl rfl ?_)
    | refine aops_nil ?_
    | refine lex_done _ rfl (by kernel_rfl) ?_
    | refine aw_ct rfl ?_
    | refine aw_cf rfl ?_
    | refine aw_block ?_
    | refine then_n ?_
    | refine aw_skip ?_
    | refine aw_exit ?_
    | refine then_x ?_
    | refine then_r ?_
    | refine block_x ?_
    | refine block_n ?_
    | refine block_r ?_
    | refine aw_ret ?_
  refine aw_loop (α := { j : Nat // 1 ≤ j ∧ j ≤ b.wait.length }) (fun j => ⟨(.any :: .any :: .any :: .any :: (.ptr 0 0) :: .any :: (.ptr 1 0) :: .any :: (I (bestN b.wait j.1)) :: (I j.1) :: .any :: .any :: .any :: .any :: .any :: .any :: .any :: .any :: .any :: .any :: .any :: .any :: .any :: .any :: .any :: .any :: .any :: .any :: .any :: .any :: .any :: .any :: .any :: .any :: .any :: .any :: .any :: .any :: .any :: .any :: .any :: .any :: .any :: .any :: .any :: .any :: .any :: .any :: .any :: .any :: .any :: .any :: .any :: .any :: .any :: .any :: .any :: .any :: .any :: .any :: .any :: .any :: .any :: .any :: .any :: .any :: .any :: .any :: .any :: .any :: .any :: .any :: .any :: .any :: .any :: .any :: .any :: .any :: .any :: .any :: []), [⟨24, 4, [I 0, I 0, .k (.slice none 0 0), .k (.slice none 0 0)], 0⟩, ⟨24, 4, [I b.pool, I b.next, .sl 3 0 (dropC b.act i).length, .sl 2 0 b.wait.length], 0⟩, regOf clT 53 b.wait, regOf clT 53 (dropC b.act i)], 0⟩) (fun j => b.wait.length - j.1) ⟨1, Nat.le_refl 1, h0⟩ ?_ ?_
  · exact sub0 [1, 4, 3, 5] rfl rfl (by decide) (.cons rfl rfl rfl rfl (by repeat' first | exact les_nil | refine les_cons ?_ ?_ | exact le_any | exact le_refl rfl | exact le_sl rfl rfl | exact le_ptr rfl) (.cons rfl rfl rfl rfl (by repeat' first | exact les_nil | refine les_cons ?_ ?_ | exact le_any | exact le_refl rfl | exact le_sl rfl rfl | exact le_ptr rfl) (.cons rfl rfl rfl rfl (les_refl (flat_noH _ _)) (.cons rfl rfl rfl rfl (les_refl (flat_noH _ _)) .nil)))) (by repeat' first | exact les_nil | refine les_cons ?_ ?_ | exact le_any | exact le_refl rfl | exact le_sl rfl rfl | exact le_ptr rfl | exact le_k (congrArg _ (by rw [bestN_one]; rfl)))
  · rintro ⟨j, hj0, hj⟩
    have hbj := bestN_lt h0 j hj
    obtain ⟨d, hd⟩ : ∃ d, b.wait[bestN b.wait j]? = some d := ⟨_, List.getElem?_eq_getElem hbj⟩
    repeat' first
      | refine aw_seq ?_
      | refine aw_region ?_
      | refine aw_lex [] ?_
      | (refine isA ?_; refine do_F rfl ?_)
      | (refine isL ?_; refine lex_F rfl (by kernel_rfl) rfl rfl ?_)
      | (refine isLg rfl ?_; refine lex_S rfl (by kernel_rfl) rfl rfl ?_)
      | refine aops_nil ?_
      | refine lex_done _ rfl (by kernel_rfl) ?_
      | refine aw_ct rfl ?_
      | refine aw_cf rfl ?_
      | refine aw_block ?_
      | refine then_n ?_
      | refine aw_skip ?_
      | refine aw_exit ?_
      | refine then_x ?_
      | refine then_r ?_
      | refine block_x ?_
      | refine block_n ?_
      | refine block_r ?_
      | refine aw_ret ?_
    refine aw_cond rfl (fun h3 => ?_) (fun h3 => ?_)
    · have hlt : j < b.wait.length := by have := of_decide_eq_true h3; simp only at this; omega
      obtain ⟨c, hc⟩ : ∃ c, b.wait[j]? = some c := ⟨_, List.getElem?_eq_getElem hlt⟩
      repeat' first
        | refine aw_seq ?_
        | refine aw_region ?_
        | refine aw_lex [] ?_
        | (refine isA ?_; refine do_F rfl ?_)
        | (refine isL ?_; refine lex_F rfl (by kernel_rfl) rfl rfl ?_)
        | (refine isLg rfl ?_; refine lex_S rfl (by kernel_rfl) rfl rfl ?_)
        | (refine isAi (x := .tmp 52) ?_; refine do_R rfl (step_ia_sl (j := j) rfl rfl rfl (Nat.zero_le _) rfl rfl (Int.natCast_nonneg j) (by omega)) rfl ?_)
        | (refine isLi (x := .tmp 52) rfl ?_; refine lex_R rfl (by kernel_rfl) rfl (step_ia_sl (j := j) rfl rfl rfl (Nat.zero_le _) rfl rfl (Int.natCast_nonneg j) (by omega)) rfl ?_)
        | (refine isAi (x := .tmp 58) ?_; refine do_R rfl (step_ia_sl (j := bestN b.wait j) rfl rfl rfl (Nat.zero_le _) rfl rfl (Int.natCast_nonneg _) (by omega)) rfl ?_)
        | (refine isLi (x := .tmp 58) rfl ?_; refine lex_R rfl (by kernel_rfl) rfl (step_ia_sl (j := bestN b.wait j) rfl rfl rfl (Nat.zero_le _) rfl rfl (Int.natCast_nonneg _) (by omega)) rfl ?_)
        | (refine isAl (x := .tmp 55) ?_; refine do_R rfl (ld_f (T := clT) (i := 0 + (j : Int).toNat) (off := 2) (z := c) (v := I c.c) rfl rfl rfl (by rw [Nat.zero_add]; exact hc) rfl) rfl ?_)
        | (refine isLl (x := .tmp 55) rfl ?_; refine lex_R rfl (by kernel_rfl) rfl (ld_f (T := clT) (i := 0 + (j : Int).toNat) (off := 2) (z := c) (v := I c.c) rfl rfl rfl (by rw [Nat.zero_add]; exact hc) rfl) rfl ?_)
        | (refine isAl (x := .tmp 61) ?_; refine do_R rfl (ld_f (T := clT) (i := 0 + (bestN b.wait j : Int).toNat) (off := 2) (z := d) (v := I d.c) rfl rfl rfl (by rw [Nat.zero_add]; exact hd) rfl) rfl ?_)
        | (refine isLl (x := .tmp 61) rfl ?_; refine lex_R rfl (by kernel_rfl) rfl (ld_f (T := clT) (i := 0 + (bestN b.wait j : Int).toNat) (off := 2) (z := d) (v := I d.c) rfl rfl rfl (by rw [Nat.zero_add]; exact hd) rfl) rfl ?_)
        | refine aops_nil ?_
        | refine lex_done _ rfl (by kernel_rfl) ?_
        | refine aw_ct rfl ?_
        | refine aw_cf rfl ?_
        | refine aw_block ?_
        | refine then_n ?_
        | refine aw_skip ?_
        | refine aw_exit ?_
        | refine then_x ?_
        | refine then_r ?_
        | refine block_x ?_
        | refine block_n ?_
        | refine block_r ?_
        | refine aw_ret ?_
      refine aw_cond rfl (fun h5 => ?_) (fun h5 => ?_)
      · have eb := bestN_yes hc hd (of_decide_eq_true h5)
        repeat' first
          | refine aw_seq ?_
          | refine aw_region ?_
          | refine aw_lex [] ?_
          | (refine isA ?_; refine do_F rfl ?_)
          | (refine isL ?_; refine lex_F rfl (by kernel_rfl) rfl rfl ?_)
          | (refine isLg rfl ?_; refine lex_S rfl (by kernel_rfl) rfl rfl ?_)
          | refine aops_nil ?_
          | refine lex_done _ rfl (by kernel_rfl) ?_
          | refine aw_ct rfl ?_
          | refine aw_cf rfl ?_
          | refine aw_block ?_
          | refine then_n ?_
          | refine aw_skip ?_
          | refine aw_exit ?_
          | refine then_x ?_
          | refine then_r ?_
          | refine block_x ?_
          | refine block_n ?_
          | refine block_r ?_
          | refine aw_ret ?_
        refine ⟨⟨j + 1, by omega, hlt⟩, by simp only; omega, ?_⟩
        exact sub0 [0, 1, 2, 3] rfl rfl (by decide) (.cons rfl rfl rfl rfl (by repeat' first | exact les_nil | refine les_cons ?_ ?_ | exact le_any | exact le_refl rfl | exact le_sl rfl rfl | exact le_ptr rfl) (.cons rfl rfl rfl rfl (by repeat' first | exact les_nil | refine les_cons ?_ ?_ | exact le_any | exact le_refl rfl | exact le_sl rfl rfl | exact le_ptr rfl) (.cons rfl rfl rfl rfl (les_refl (flat_noH _ _)) (.cons rfl rfl rfl rfl (les_refl (flat_noH _ _)) .nil)))) (by repeat' first | exact les_nil | refine les_cons ?_ ?_ | exact le_any | exact le_refl rfl | exact le_sl rfl rfl | exact le_ptr rfl | exact le_i hlt (by omega) | exact le_k (congrArg _ (by simp only [eb])))
      · have eb := bestN_no hc hd (of_decide_eq_false h5)
        repeat' first
          | refine aw_seq ?_
          | refine aw_region ?_
          | refine aw_lex [] ?_
          | (refine isA ?_; refine do_F rfl ?_)
          | (refine isL ?_; refine lex_F rfl (by kernel_rfl) rfl rfl ?_)
          | (refine isLg rfl ?_; refine lex_S rfl (by kernel_rfl) rfl rfl ?_)
          | refine aops_nil ?_
          | refine lex_done _ rfl (by kernel_rfl) ?_
          | refine aw_ct rfl ?_
          | refine aw_cf rfl ?_
          | refine aw_block ?_
          | refine then_n ?_
          | refine aw_skip ?_
          | refine aw_exit ?_
          | refine then_x ?_
          | refine then_r ?_
          | refine block_x ?_
          | refine block_n ?_
          | refine block_r ?_
          | refine aw_ret ?_
        refine ⟨⟨j + 1, by omega, hlt⟩, by simp only; omega, ?_⟩
        exact sub0 [0, 1, 2, 3] rfl rfl (by decide) (.cons rfl rfl rfl rfl (by repeat' first | exact les_nil | refine les_cons ?_ ?_ | exact le_any | exact le_refl rfl | exact le_sl rfl rfl | exact le_ptr rfl) (.cons rfl rfl rfl rfl (by repeat' first | exact les_nil | refine les_cons ?_ ?_ | exact le_any | exact le_refl rfl | exact le_sl rfl rfl | exact le_ptr rfl) (.cons rfl rfl rfl rfl (les_refl (flat_noH _ _)) (.cons rfl rfl rfl rfl (les_refl (flat_noH _ _)) .nil)))) (by repeat' first | exact les_nil | refine les_cons ?_ ?_ | exact le_any | exact le_refl rfl | exact le_sl rfl rfl | exact le_ptr rfl | exact le_i hlt (by omega) | exact le_k (congrArg _ (by simp only [eb])))
    · have hjn : j = b.wait.length := by have := of_decide_eq_false h3; simp only at this; omega
      subst hjn
      repeat' first
        | refine aw_seq ?_
        | refine aw_region ?_
        | refine aw_lex [7, 9] ?_
        | (refine isA ?_; refine do_F rfl ?_)
        | (refine isL ?_; refine lex_F rfl (by kernel_rfl) rfl rfl ?_)
        | (refine isLg rfl ?_; refine lex_S rfl (by kernel_rfl) rfl rfl ?_)
        | (refine isAi ?_; refine do_R rfl (step_ia_sl (j := bestN b.wait b.wait.length) rfl rfl rfl (Nat.zero_le _) rfl rfl (Int.natCast_nonneg _) (by omega)) rfl ?_)
        | (refine isLi rfl ?_; refine lex_R rfl (by kernel_rfl) rfl (step_ia_sl (j := bestN b.wait b.wait.length) rfl rfl rfl (Nat.zero_le _) rfl rfl (Int.natCast_nonneg _) (by omega)) rfl ?_)
        | (refine isAl (x := .tmp 70) ?_; refine do_R rfl (ld_a (T := clT) (i := 0 + (bestN b.wait b.wait.length : Int).toNat) (z := w) rfl rfl rfl (by rw [Nat.zero_add]; exact hw)) rfl ?_)
        | (refine isLl (x := .tmp 70) rfl ?_; refine lex_R rfl (by kernel_rfl) rfl (ld_a (T := clT) (i := 0 + (bestN b.wait b.wait.length : Int).toNat) (z := w) rfl rfl rfl (by rw [Nat.zero_add]; exact hw)) rfl ?_)
        | (refine isL ?_; refine lex_W rfl (by kernel_rfl) rfl (st_callK rfl (c_put (dropC b.act i) w (by omega)) (.cons (pur_l rfl rfl) (.cons (.same rfl) .nil)) (fun q hq => by simp at hq; subst hq; exact flat_noH _ _) rfl rfl) rfl ?_)
        | (refine isL ?_; refine lex_WF rfl (by kernel_rfl) rfl rfl ?_)
        | (refine isAc 84 ?_; refine do_R rfl (st_callK rfl (c_drop b.wait (bestC b.wait) hbl h2) (.cons (pur_l rfl rfl) (.cons (.same rfl) .nil)) (fun q hq => by simp at hq; subst hq; exact flat_noH _ _) rfl rfl) rfl ?_)
        | (refine isLc 84 rfl ?_; refine lex_R rfl (by kernel_rfl) rfl (st_callK rfl (c_drop b.wait (bestC b.wait) hbl h2) (.cons (pur_l rfl rfl) (.cons (.same rfl) .nil)) (fun q hq => by simp at hq; subst hq; exact flat_noH _ _) rfl rfl) rfl ?_)
        | exact (by rw [hr]; exact finMCTf [4, 5] (by decide) (cell_is rfl rfl rfl rfl rfl) (le_tup (les_cons (le_agg (les_cons (le_refl rfl) (les_cons (le_refl rfl) (les_cons (le_sl rfl rfl) (les_cons (le_sl rfl rfl) les_nil))))) (les_cons (le_refl rfl) les_nil))) (.cons rfl rfl rfl rfl (les_eq rfl (flat_noH _ _)) (.cons rfl rfl rfl rfl (les_eq rfl (flat_noH _ _)) .nil)) rfl (brK_flat _ _))
        | refine aops_nil ?_
        | refine lex_done _ rfl (by kernel_rfl) ?_
        | refine aw_ct rfl ?_
        | refine aw_cf rfl ?_
        | refine aw_block ?_
        | refine then_n ?_
        | refine aw_skip ?_
        | refine aw_exit ?_
        | refine then_x ?_
        | refine then_r ?_
        | refine block_x ?_
        | refine block_n ?_
        | refine block_r ?_
        | refine aw_ret ?_
end Go.Proofs.Ytjlhfemfmkdlhaa.Ab
