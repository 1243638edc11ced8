/-
  slices.Delete and slices.Insert at clients.
-/
import Derived.Test.YtjlhfemfmkdlhaaRmA
namespace Go.Proofs.Ytjlhfemfmkdlhaa.Ab
open Go.RowKit
set_option linter.unusedVariables false
set_option linter.unusedSimpArgs false
set_option maxRecDepth 20000
set_option maxHeartbeats 1000000

theorem drop_set {xs : List Cl} {k : Nat} (hk : k < xs.length) : setCells (clT.flat xs) (k * 3) (clT.flat (xs.drop (k + 1))) = clT.flat (dropC xs k ++ xs.drop (xs.length - 1)) := by
  have e1 : (clT.flat (xs.drop (k + 1))).length = (xs.length - (k + 1)) * 3 := by rw [flat_length]; simp; rfl
  unfold setCells dropC
  rw [e1, show k * 3 = k * clT.n from rfl, show (xs.length - (k + 1)) * 3 = (xs.length - (k + 1)) * clT.n from rfl, ← Nat.add_mul, flat_take, flat_drop, ← flat_append, ← flat_append]
  congr 3
  omega
theorem drop_last {xs : List Cl} (h : 0 < xs.length) : (xs.drop (xs.length - 1)).length = 1 := by simp; omega
theorem clear_set (ys : List Cl) (l : List Cl) (hl : l.length = 1) : setCells (clT.flat (ys ++ l)) (ys.length * 3) [I 0, I 0, I 0] = clT.flat (ys ++ [z3]) := by
  obtain ⟨a, rfl⟩ := List.length_eq_one_iff.1 hl
  unfold setCells
  have e : (clT.flat (ys ++ [a])).take (ys.length * 3) = clT.flat ys := by
    rw [show ys.length * 3 = ys.length * clT.n from rfl, flat_take]
    simp
  have e2 : (clT.flat (ys ++ [a])).drop (ys.length * 3 + [I 0, I 0, I 0].length) = [] := by
    rw [show ys.length * 3 + [I 0, I 0, I 0].length = (ys.length + 1) * clT.n by show _ = (ys.length + 1) * 3; simp; omega, flat_drop]
    simp [Ty.flat]
  rw [e, e2, List.append_nil, flat_append]
  rfl

theorem c_delete (xs : List Cl) (k : Nat) (hk : k < xs.length) (hl : xs.length ≤ 1000000000) : Meets Go.Proofs.Try.prog 86 [.sl 0 0 xs.length, I k, I ((k : Int) + 1)] [regOf clT 53 xs] (.sl 0 0 (dropC xs k).length) [regOf clT 53 (dropC xs k ++ [z3])] true := by
  have hdl := dropC_len hk
  refine meets_of [6] Go.Proofs.Try.func86 rfl rfl ?_
  simp only [Go.Proofs.Try.ntmps86, List.length_cons, List.length_nil, Nat.reduceAdd, Nat.reduceSub, List.replicate_succ, List.replicate_zero, List.cons_append, List.nil_append]
  repeat' first
    | refine aw_seq ?_
    | refine aw_region ?_
    | refine aw_lex [] ?_
    | (refine isA ?_; refine do_F rfl ?_)
    | (refine isL ?_; refine lex_F rfl (by kernel_rfl) rfl rfl ?_)
    | (refine isLg rfl ?_; refine lex_S rfl (by kernel_rfl) rfl rfl ?_)
    | (refine isAx (x := .tmp 8) ?_; refine do_R rfl (step_slice3 rfl rfl rfl rfl rfl (Int.natCast_nonneg k) (by omega) (by omega) (by omega) (by omega)) rfl ?_)
    | (refine isLx (x := .tmp 8) rfl ?_; refine lex_R rfl (by kernel_rfl) rfl (step_slice3 rfl rfl rfl rfl rfl (Int.natCast_nonneg k) (by omega) (by omega) (by omega) (by omega)) rfl ?_)
    | refine aops_nil ?_
    | refine lex_done _ rfl (by kernel_rfl) ?_
    | refine aw_ct rfl ?_
    | refine aw_cf rfl ?_
    | refine aw_block ?_
    | refine then_n ?_
    | refine aw_skip ?_
    | refine aw_exit ?_
    | refine then_x ?_
    | refine then_r ?_
    | refine block_x ?_
    | refine block_n ?_
    | refine block_r ?_
    | refine aw_ret ?_
  refine aw_cond rfl (fun h => by have := of_decide_eq_true h; omega) (fun _ => ?_)
  have hsrc : Src [regOf clT 53 xs] (.sl 0 (0 + ((k : Int) + 1).toNat) ((xs.length : Int).toNat - ((k : Int) + 1).toNat)) (xs.length - (k + 1)) (clT.flat (xs.drop (k + 1))) := by
    have e : ((k : Int) + 1).toNat = k + 1 := by omega
    have := Src.sl (H := [regOf clT 53 xs]) (h := 0) (off := k + 1) (m := xs.length - (k + 1)) (r := regOf clT 53 xs) rfl (Nat.zero_le _) (by show (k + 1 + (xs.length - (k + 1))) * 3 ≤ (clT.flat xs).length; rw [flat_length]; show _ ≤ xs.length * 3; omega)
    rw [e, Nat.zero_add, Int.toNat_natCast]
    have e2 : (((regOf clT 53 xs).cells.drop ((k + 1) * (regOf clT 53 xs).esz)).take ((xs.length - (k + 1)) * (regOf clT 53 xs).esz)) = clT.flat (xs.drop (k + 1)) := by
      show ((clT.flat xs).drop ((k + 1) * clT.n)).take ((xs.length - (k + 1)) * clT.n) = _
      rw [flat_drop, flat_take, List.take_of_length_le (by simp)]
    rw [e2] at this
    exact this
  have hsl : (clT.flat (xs.drop (k + 1))).length = (xs.length - (k + 1)) * 3 := by rw [flat_length]; simp; rfl
  repeat' first
    | refine aw_seq ?_
    | refine aw_region ?_
    | refine aw_lex [6] ?_
    | (refine isA ?_; refine do_F rfl ?_)
    | (refine isL ?_; refine lex_F rfl (by kernel_rfl) rfl rfl ?_)
    | (refine isLg rfl ?_; refine lex_S rfl (by kernel_rfl) rfl rfl ?_)
    | (refine isAx (x := .tmp 20) ?_; refine do_R rfl (step_slice_sl (h := (k : Int)) rfl rfl rfl (Nat.zero_le _) rfl (.no 0) (.yes _ rfl) (by omega) (Int.natCast_nonneg k) (by omega)) rfl ?_)
    | (refine isLx (x := .tmp 20) rfl ?_; refine lex_R rfl (by kernel_rfl) rfl (step_slice_sl (h := (k : Int)) rfl rfl rfl (Nat.zero_le _) rfl (.no 0) (.yes _ rfl) (by omega) (Int.natCast_nonneg k) (by omega)) rfl ?_)
    | (refine isAx (x := .tmp 23) ?_; refine do_R rfl (step_slice_sl (l := (k : Int) + 1) rfl rfl rfl (Nat.zero_le _) rfl (.yes _ rfl) (.no _) (by omega) (by omega) (by omega)) rfl ?_)
    | (refine isLx (x := .tmp 23) rfl ?_; refine lex_R rfl (by kernel_rfl) rfl (step_slice_sl (l := (k : Int) + 1) rfl rfl rfl (Nat.zero_le _) rfl (.yes _ rfl) (.no _) (by omega) (by omega) (by omega)) rfl ?_)
    | (refine isLp rfl ?_; refine lex_W rfl (by kernel_rfl) rfl (step_append_at (k := k) rfl rfl rfl rfl rfl rfl (by show (k + (xs.length - (k + 1))) * 3 ≤ (clT.flat xs).length; rw [flat_length]; show _ ≤ xs.length * 3; omega) hsrc hsl (flat_oneV _ _)) rfl ?_)
    | refine aops_nil ?_
    | refine lex_done _ rfl (by kernel_rfl) ?_
    | refine aw_ct rfl ?_
    | refine aw_cf rfl ?_
    | refine aw_block ?_
    | refine then_n ?_
    | refine aw_skip ?_
    | refine aw_exit ?_
    | refine then_x ?_
    | refine then_r ?_
    | refine block_x ?_
    | refine block_n ?_
    | refine block_r ?_
    | refine aw_ret ?_
  have hL : k + (xs.length - (k + 1)) = (dropC xs k).length := by omega
  have hlen : (setCells (clT.flat xs) (k * 3) (clT.flat (xs.drop (k + 1)))).length = xs.length * 3 := by rw [setCells_length (by rw [hsl, flat_length]; show _ ≤ xs.length * 3; omega), flat_length]; rfl
  have hfin : setCells (setCells (clT.flat xs) (k * 3) (clT.flat (xs.drop (k + 1)))) ((0 + (((k + (xs.length - (k + 1)) : Nat) : Int)).toNat) * 3) (List.replicate ((xs.length : Int).toNat - ((k + (xs.length - (k + 1)) : Nat) : Int).toNat) [I 0, I 0, I 0]).flatten = clT.flat (dropC xs k ++ [z3]) := by
    rw [drop_set hk, Int.toNat_natCast, Int.toNat_natCast, hL, Nat.zero_add, show xs.length - (dropC xs k).length = 1 by omega]
    exact clear_set (dropC xs k) (xs.drop (xs.length - 1)) (drop_last (by omega))
  repeat' first
    | refine aw_seq ?_
    | refine aw_region ?_
    | refine aw_lex [] ?_
    | (refine isA ?_; refine do_F rfl ?_)
    | (refine isL ?_; refine lex_F rfl (by kernel_rfl) rfl rfl ?_)
    | (refine isLg rfl ?_; refine lex_S rfl (by kernel_rfl) rfl rfl ?_)
    | (refine isAx ?_; refine do_R rfl (step_slice_room (l := ((k + (xs.length - (k + 1)) : Nat) : Int)) (h := (xs.length : Int)) rfl rfl rfl (Nat.zero_le _) rfl (.yes _ rfl) (.yes _ rfl) (by omega) (by omega) (by show (0 + (xs.length : Int).toNat) * 3 ≤ (setCells (clT.flat xs) (k * 3) (clT.flat (xs.drop (k + 1)))).length; rw [hlen]; omega) (Or.inr rfl)) rfl ?_)
    | (refine isLx rfl ?_; refine lex_R rfl (by kernel_rfl) rfl (step_slice_room (l := ((k + (xs.length - (k + 1)) : Nat) : Int)) (h := (xs.length : Int)) rfl rfl rfl (Nat.zero_le _) rfl (.yes _ rfl) (.yes _ rfl) (by omega) (by omega) (by show (0 + (xs.length : Int).toNat) * 3 ≤ (setCells (clT.flat xs) (k * 3) (clT.flat (xs.drop (k + 1)))).length; rw [hlen]; omega) (Or.inr rfl)) rfl ?_)
    | (refine isA ?_; refine do_R rfl (step_clear (zs := [.int .i64 0, .int .i64 0, .int .i64 0]) rfl rfl rfl rfl rfl rfl (by simp [Value.oneCell']) (by show ((0 + (((k + (xs.length - (k + 1)) : Nat) : Int)).toNat) + ((xs.length : Int).toNat - ((k + (xs.length - (k + 1)) : Nat) : Int).toNat)) * 3 ≤ (setCells (clT.flat xs) (k * 3) (clT.flat (xs.drop (k + 1)))).length; rw [hlen]; omega)) rfl ?_)
    | exact finM 1 [0] fix1 (by decide) rfl (le_sl rfl hL) (.cons rfl rfl rfl rfl (les_eq hfin (flat_noH _ _)) .nil)
    | refine aops_nil ?_
    | refine lex_done _ rfl (by kernel_rfl) ?_
    | refine aw_ct rfl ?_
    | refine aw_cf rfl ?_
    | refine aw_block ?_
    | refine then_n ?_
    | refine aw_skip ?_
    | refine aw_exit ?_
    | refine then_x ?_
    | refine then_r ?_
    | refine block_x ?_
    | refine block_n ?_
    | refine block_r ?_
    | refine aw_ret ?_

def insC (xs : List Cl) (i : Nat) (c : Cl) : List Cl := xs.take i ++ c :: xs.drop i
theorem insC_len {xs : List Cl} {i : Nat} {c : Cl} (h : i ≤ xs.length) : (insC xs i c).length = xs.length + 1 := by simp [insC]; omega
theorem ovl {o : Oper} {ρ : Operand → V} {H : List Reg} {x y : Operand} {h h' off off' k k' : Nat} {ats : Array TypeId} {r r' : Reg} (ho : o.op = .call { callee := .value (.func 96), args := #[x, y], argTypes := ats }) (hx : ρ x = .sl h off k) (hy : ρ y = .sl h' off' k') (hne : h ≠ h') (hr : H[h]? = some r) (hm : r.mode = 0) (hr' : H[h']? = some r') (hm' : r'.mode = 0) (hk : 0 < k ∨ off = 0) (hk' : 0 < k') (hes' : r'.esz = 3) : Step Go.Proofs.Try.prog o ρ H (B false) H :=
  step_overlaps (t := 22) (tr := 4) (e := 53) Go.Proofs.Try.func96 (by kernel_rfl) (by kernel_rfl) (by kernel_rfl) (by kernel_rfl) ho hx hy hne hr hm hr' hm' hk hk' hes'

theorem set_last (xs : List Cl) (z c : Cl) : setCells (clT.flat (xs ++ [z])) (xs.length * 3) (clT.flat [c]) = clT.flat (insC xs xs.length c) := by
  rw [flat_single, show xs.length * 3 = xs.length * clT.n from rfl, flat_set (t := clT) (xs := xs ++ [z]) (i := xs.length) (x := c) (by simp)]
  simp [insC]
theorem shift1 {xs : List Cl} {z : Cl} {i : Nat} (h : i < xs.length) : setCells (clT.flat (xs ++ [z])) ((i + 1) * 3) ((clT.flat ((xs ++ [z]).drop i)).take ((xs.length - i) * 3)) = clT.flat (xs.take (i + 1) ++ xs.drop i) := by
  have e : (clT.flat ((xs ++ [z]).drop i)).take ((xs.length - i) * 3) = clT.flat (xs.drop i) := by
    rw [show (xs.length - i) * 3 = (xs.length - i) * clT.n from rfl, flat_take, List.drop_append_of_le_length (by omega), List.take_append_of_le_length (by simp)]
    rw [List.take_of_length_le (by simp)]
  rw [e]
  unfold setCells
  have e1 : (clT.flat (xs.drop i)).length = (xs.length - i) * clT.n := by rw [flat_length]; simp
  have e2 : (xs ++ [z]).drop (i + 1 + (xs.length - i)) = [] := List.drop_eq_nil_of_le (by rw [List.length_append, List.length_singleton]; omega)
  rw [e1, show (i + 1) * 3 = (i + 1) * clT.n from rfl, ← Nat.add_mul, flat_take, flat_drop, e2, ← flat_append, ← flat_append, List.append_nil, List.take_append_of_le_length (by omega)]
theorem shift2 {xs : List Cl} {c : Cl} {i : Nat} (h : i < xs.length) : setCells (clT.flat (xs.take (i + 1) ++ xs.drop i)) (i * 3) ((clT.flat [c]).take (1 * 3)) = clT.flat (insC xs i c) := by
  have e : (clT.flat [c]).take (1 * 3) = clT.enc c := by rw [flat_single]; rfl
  rw [e, show i * 3 = i * clT.n from rfl, flat_set (t := clT) (xs := xs.take (i + 1) ++ xs.drop i) (i := i) (x := c) (by simp; omega)]
  congr 1
  rw [List.set_append_left _ _ (by simp; omega), List.take_add_one, List.getElem?_eq_getElem h]
  rw [Option.toList_some, List.set_append_right _ _ (by simp; omega)]
  have : i - (xs.take i).length = 0 := by simp; omega
  rw [this]
  simp [insC]
theorem c_insert (xs : List Cl) (z c : Cl) (i : Nat) (hi : i ≤ xs.length) (hl : xs.length ≤ 1000000000) : Meets Go.Proofs.Try.prog 87 [.sl 0 0 xs.length, I i, .sl 1 0 1] [regOf clT 53 (xs ++ [z]), regOf clT 53 [c]] (.sl 0 0 (xs.length + 1)) [regOf clT 53 (insC xs i c), regOf clT 53 [c]] true := by
  have hcl : (clT.flat (xs ++ [z])).length = (xs.length + 1) * 3 := by rw [flat_length]; simp; rfl
  have hlast := set_last xs z c
  refine meets_of [6] Go.Proofs.Try.func87 rfl rfl ?_
  simp only [Go.Proofs.Try.ntmps87, List.length_cons, List.length_nil, Nat.reduceAdd, Nat.reduceSub, List.replicate_succ, List.replicate_zero, List.cons_append, List.nil_append]
  repeat' first
    | refine aw_seq ?_
    | refine aw_region ?_
    | refine aw_lex [] ?_
    | (refine isA ?_; refine do_F rfl ?_)
    | (refine isL ?_; refine lex_F rfl (by kernel_rfl) rfl rfl ?_)
    | (refine isLg rfl ?_; refine lex_S rfl (by kernel_rfl) rfl rfl ?_)
    | (refine isAx (x := .tmp 10) ?_; refine do_R rfl (step_slice_sl (l := (i : Int)) rfl rfl rfl (Nat.zero_le _) rfl (.yes _ rfl) (.no _) (Int.natCast_nonneg i) (by omega) (by omega)) rfl ?_)
    | (refine isLx (x := .tmp 10) rfl ?_; refine lex_R rfl (by kernel_rfl) rfl (step_slice_sl (l := (i : Int)) rfl rfl rfl (Nat.zero_le _) rfl (.yes _ rfl) (.no _) (Int.natCast_nonneg i) (by omega) (by omega)) rfl ?_)
    | refine aops_nil ?_
    | refine lex_done _ rfl (by kernel_rfl) ?_
    | refine aw_ct rfl ?_
    | refine aw_cf rfl ?_
    | refine aw_block ?_
    | refine then_n ?_
    | refine aw_skip ?_
    | refine aw_exit ?_
    | refine then_x ?_
    | refine then_r ?_
    | refine block_x ?_
    | refine block_n ?_
    | refine block_r ?_
    | refine aw_ret ?_
  refine aw_cond rfl (fun h => ?_) (fun h => ?_)
  · have hi' : i = xs.length := by have := of_decide_eq_true h; omega
    subst hi'
    repeat' first
      | refine aw_seq ?_
      | refine aw_region ?_
      | refine aw_lex [] ?_
      | (refine isA ?_; refine do_F rfl ?_)
      | (refine isL ?_; refine lex_F rfl (by kernel_rfl) rfl rfl ?_)
      | (refine isLg rfl ?_; refine lex_S rfl (by kernel_rfl) rfl rfl ?_)
      | (refine isAp ?_; refine do_R rfl (step_append_at (k := xs.length) (m := 1) (src := clT.flat [c]) rfl rfl rfl rfl rfl rfl (by rw [hcl]; exact Nat.le_refl _) (src_of rfl rfl rfl rfl) rfl (flat_oneV _ _)) rfl ?_)
      | (refine isLp rfl ?_; refine lex_R rfl (by kernel_rfl) rfl (step_append_at (k := xs.length) (m := 1) (src := clT.flat [c]) rfl rfl rfl rfl rfl rfl (by rw [hcl]; exact Nat.le_refl _) (src_of rfl rfl rfl rfl) rfl (flat_oneV _ _)) rfl ?_)
      | exact finM 2 [0, 1] fix2 (by decide) rfl (le_sl rfl rfl) (.cons rfl rfl rfl rfl (les_eq hlast (flat_noH _ _)) (.cons rfl rfl rfl rfl (les_refl (flat_noH _ _)) .nil))
      | refine aops_nil ?_
      | refine lex_done _ rfl (by kernel_rfl) ?_
      | refine aw_ct rfl ?_
      | refine aw_cf rfl ?_
      | refine aw_block ?_
      | refine then_n ?_
      | refine aw_skip ?_
      | refine aw_exit ?_
      | refine then_x ?_
      | refine then_r ?_
      | refine block_x ?_
      | refine block_n ?_
      | refine block_r ?_
      | refine aw_ret ?_
  have hne : i < xs.length := by have := of_decide_eq_false h; omega
  have ew : IntKind.i64.wrap ((xs.length : Int) + ((1 : Nat) : Int)) = ((xs.length + 1 : Nat) : Int) := by rw [IntKind.wrap_i64]; omega
  have ei : IntKind.i64.wrap ((i : Int) + ((1 : Nat) : Int)) = ((i + 1 : Nat) : Int) := by rw [IntKind.wrap_i64]; omega
  repeat' first
    | refine aw_seq ?_
    | refine aw_region ?_
    | refine aw_lex [] ?_
    | (refine isA ?_; refine do_F rfl ?_)
    | (refine isL ?_; refine lex_F rfl (by kernel_rfl) rfl rfl ?_)
    | (refine isLg rfl ?_; refine lex_S rfl (by kernel_rfl) rfl rfl ?_)
    | (refine st_cap rfl rfl rfl (Or.inr rfl) rfl (Nat.zero_le _) rfl (fun c => rfl) (fun n hn1 _ _ => ?_))
    | refine aops_nil ?_
    | refine lex_done _ rfl (by kernel_rfl) ?_
    | refine aw_ct rfl ?_
    | refine aw_cf rfl ?_
    | refine aw_block ?_
    | refine then_n ?_
    | refine aw_skip ?_
    | refine aw_exit ?_
    | refine then_x ?_
    | refine then_r ?_
    | refine block_x ?_
    | refine block_n ?_
    | refine block_r ?_
    | refine aw_ret ?_
  refine aw_cond rfl (fun h => ?_) (fun _ => ?_)
  · have := of_decide_eq_true h
    rw [ew] at this
    have hn1 : (clT.flat (xs ++ [z])).length ≤ (0 + n) * 3 := hn1
    omega
  repeat' first
    | refine aw_seq ?_
    | refine aw_region ?_
    | refine aw_lex [8] ?_
    | (refine isA ?_; refine do_F rfl ?_)
    | (refine isL ?_; refine lex_F rfl (by kernel_rfl) rfl rfl ?_)
    | (refine isLg rfl ?_; refine lex_S rfl (by kernel_rfl) rfl rfl ?_)
    | (refine isAx (x := .tmp 56) ?_; refine do_R rfl (step_slice_room (l := 0) (h := ((xs.length + 1 : Nat) : Int)) rfl rfl rfl (Nat.zero_le _) rfl (.no 0) (.yes _ (by rw [← ew]; rfl)) (by omega) (by omega) (by show (0 + ((xs.length + 1 : Nat) : Int).toNat) * 3 ≤ (clT.flat (xs ++ [z])).length; rw [hcl]; omega) (Or.inr rfl)) rfl ?_)
    | (refine isLx (x := .tmp 56) rfl ?_; refine lex_R rfl (by kernel_rfl) rfl (step_slice_room (l := 0) (h := ((xs.length + 1 : Nat) : Int)) rfl rfl rfl (Nat.zero_le _) rfl (.no 0) (.yes _ (by rw [← ew]; rfl)) (by omega) (by omega) (by show (0 + ((xs.length + 1 : Nat) : Int).toNat) * 3 ≤ (clT.flat (xs ++ [z])).length; rw [hcl]; omega) (Or.inr rfl)) rfl ?_)
    | (refine isAx (x := .tmp 62) ?_; refine do_R rfl (step_slice_sl (l := ((i + 1 : Nat) : Int)) (h := ((xs.length + 1 : Nat) : Int)) rfl rfl rfl (Nat.zero_le _) rfl (.yes _ (by rw [← ei]; rfl)) (.no _) (by omega) (by omega) (by omega)) rfl ?_)
    | (refine isLx (x := .tmp 62) rfl ?_; refine lex_R rfl (by kernel_rfl) rfl (step_slice_sl (l := ((i + 1 : Nat) : Int)) (h := ((xs.length + 1 : Nat) : Int)) rfl rfl rfl (Nat.zero_le _) rfl (.yes _ (by rw [← ei]; rfl)) (.no _) (by omega) (by omega) (by omega)) rfl ?_)
    | (refine isAc 96 ?_; refine do_R rfl (ovl rfl rfl rfl (by decide) rfl rfl rfl rfl (Or.inr rfl) (by show 0 < ((xs.length + 1 : Nat) : Int).toNat - ((i + 1 : Nat) : Int).toNat; omega) rfl) rfl ?_)
    | (refine isLc 96 rfl ?_; refine lex_R rfl (by kernel_rfl) rfl (ovl rfl rfl rfl (by decide) rfl rfl rfl rfl (Or.inr rfl) (by show 0 < ((xs.length + 1 : Nat) : Int).toNat - ((i + 1 : Nat) : Int).toNat; omega) rfl) rfl ?_)
    | refine aops_nil ?_
    | refine lex_done _ rfl (by kernel_rfl) ?_
    | refine aw_ct rfl ?_
    | refine aw_cf rfl ?_
    | refine aw_block ?_
    | refine then_n ?_
    | refine aw_skip ?_
    | refine aw_exit ?_
    | refine then_x ?_
    | refine then_r ?_
    | refine block_x ?_
    | refine block_n ?_
    | refine block_r ?_
    | refine aw_ret ?_
  have hs0 : Src [regOf clT 53 (xs ++ [z]), regOf clT 53 [c]] (.sl 0 (0 + (i : Int).toNat) (((xs.length + 1 : Nat) : Int).toNat - (i : Int).toNat)) (xs.length + 1 - i) (clT.flat ((xs ++ [z]).drop i)) := by
    have := Src.sl (H := [regOf clT 53 (xs ++ [z]), regOf clT 53 [c]]) (h := 0) (off := i) (m := xs.length + 1 - i) (r := regOf clT 53 (xs ++ [z])) rfl (Nat.zero_le _) (by show (i + (xs.length + 1 - i)) * 3 ≤ (clT.flat (xs ++ [z])).length; rw [hcl]; omega)
    rw [Nat.zero_add, Int.toNat_natCast, Int.toNat_natCast]
    have e2 : (((regOf clT 53 (xs ++ [z])).cells.drop (i * (regOf clT 53 (xs ++ [z])).esz)).take ((xs.length + 1 - i) * (regOf clT 53 (xs ++ [z])).esz)) = clT.flat ((xs ++ [z]).drop i) := by
      show ((clT.flat (xs ++ [z])).drop (i * clT.n)).take ((xs.length + 1 - i) * clT.n) = _
      rw [flat_drop, flat_take, List.take_of_length_le (by simp)]
    rw [e2] at this
    exact this
  have hs0l : (clT.flat ((xs ++ [z]).drop i)).length = (xs.length + 1 - i) * 3 := by rw [flat_length]; simp; rfl
  have hs1 : setCells (setCells (clT.flat (xs ++ [z])) ((0 + ((i + 1 : Nat) : Int).toNat) * 3) ((clT.flat ((xs ++ [z]).drop i)).take ((xs.length - i) * 3))) ((0 + (i : Int).toNat) * 3) ((clT.flat [c]).take (1 * 3)) = clT.flat (insC xs i c) := by
    rw [Nat.zero_add, Nat.zero_add, Int.toNat_natCast, Int.toNat_natCast, shift1 hne, shift2 hne]
  have hs1l : (setCells (clT.flat (xs ++ [z])) ((0 + ((i + 1 : Nat) : Int).toNat) * 3) ((clT.flat ((xs ++ [z]).drop i)).take ((xs.length - i) * 3))).length = (xs.length + 1) * 3 := by
    rw [Nat.zero_add, Int.toNat_natCast, shift1 hne, flat_length]
    show (xs.take (i + 1) ++ xs.drop i).length * 3 = _
    simp
    omega
  repeat' first
    | refine aw_seq ?_
    | refine aw_region ?_
    | refine aw_lex [8] ?_
    | (refine isA ?_; refine do_F rfl ?_)
    | (refine isL ?_; refine lex_F rfl (by kernel_rfl) rfl rfl ?_)
    | (refine isLg rfl ?_; refine lex_S rfl (by kernel_rfl) rfl rfl ?_)
    | (refine isAx (x := .tmp 69) ?_; refine do_R rfl (step_slice_sl (l := ((i + 1 : Nat) : Int)) (h := ((xs.length + 1 : Nat) : Int)) rfl rfl rfl (Nat.zero_le _) rfl (.yes _ (by rw [← ei]; rfl)) (.no _) (by omega) (by omega) (by omega)) rfl ?_)
    | (refine isLx (x := .tmp 69) rfl ?_; refine lex_R rfl (by kernel_rfl) rfl (step_slice_sl (l := ((i + 1 : Nat) : Int)) (h := ((xs.length + 1 : Nat) : Int)) rfl rfl rfl (Nat.zero_le _) rfl (.yes _ (by rw [← ei]; rfl)) (.no _) (by omega) (by omega) (by omega)) rfl ?_)
    | (refine isAx ?_; refine do_R rfl (step_slice_sl (l := (i : Int)) (h := ((xs.length + 1 : Nat) : Int)) rfl rfl rfl (Nat.zero_le _) rfl (.yes _ rfl) (.no _) (by omega) (by omega) (by omega)) rfl ?_)
    | (refine isLx rfl ?_; refine lex_R rfl (by kernel_rfl) rfl (step_slice_sl (l := (i : Int)) (h := ((xs.length + 1 : Nat) : Int)) rfl rfl rfl (Nat.zero_le _) rfl (.yes _ rfl) (.no _) (by omega) (by omega) (by omega)) rfl ?_)
    | (refine isL ?_; refine lex_W rfl (by kernel_rfl) rfl (step_copy (p := xs.length - i) rfl rfl rfl rfl rfl (by show 0 < ((xs.length + 1 : Nat) : Int).toNat - ((i + 1 : Nat) : Int).toNat; omega) (by show ((0 + ((i + 1 : Nat) : Int).toNat) + (((xs.length + 1 : Nat) : Int).toNat - ((i + 1 : Nat) : Int).toNat)) * 3 ≤ (clT.flat (xs ++ [z])).length; rw [hcl]; omega) hs0 hs0l (by show _ = min _ _; rw [Int.toNat_natCast, Int.toNat_natCast]; omega) (flat_oneV _ _)) rfl ?_)
    | (refine isA ?_; refine do_R rfl (step_copy (p := 1) rfl rfl rfl rfl rfl (by show 0 < ((xs.length + 1 : Nat) : Int).toNat - (i : Int).toNat; omega) (by show ((0 + (i : Int).toNat) + (((xs.length + 1 : Nat) : Int).toNat - (i : Int).toNat)) * 3 ≤ (setCells (clT.flat (xs ++ [z])) ((0 + ((i + 1 : Nat) : Int).toNat) * 3) ((clT.flat ((xs ++ [z]).drop i)).take ((xs.length - i) * 3))).length; rw [hs1l]; omega) (src_of (cs := clT.flat [c]) rfl rfl rfl rfl) rfl (by show _ = min _ _; rw [Int.toNat_natCast, Int.toNat_natCast]; omega) (flat_oneV clT [c])) rfl ?_)
    | exact finM 2 [0, 1] fix2 (by decide) rfl (le_sl rfl rfl) (.cons rfl rfl rfl rfl (les_eq hs1 (flat_noH _ _)) (.cons rfl rfl rfl rfl (les_refl (flat_noH _ _)) .nil))
    | refine aops_nil ?_
    | refine lex_done _ rfl (by kernel_rfl) ?_
    | refine aw_ct rfl ?_
    | refine aw_cf rfl ?_
    | refine aw_block ?_
    | refine then_n ?_
    | refine aw_skip ?_
    | refine aw_exit ?_
    | refine then_x ?_
    | refine then_r ?_
    | refine block_x ?_
    | refine block_n ?_
    | refine block_r ?_
    | refine aw_ret ?_
end Go.Proofs.Ytjlhfemfmkdlhaa.Ab
