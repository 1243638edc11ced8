/- Plain lemmas on numbers and lists. -/
import Derived.Test.YtjlhfemfmkdlhaaWMore
namespace Go.Proofs.Ytjlhfemfmkdlhaa.Pure
open Go.RowKit Go.Proofs.YtjlhfemfmkdlhaaW.PrintWords Go.Proofs.YtjlhfemfmkdlhaaW.PrintLast

theorem wrap_succ {i : Int} {n : Nat} (h0 : 0 ≤ i) (h : i < (n : Int)) (hn : n ≤ 9223372036854775807) : wrap64 (i + 1) = i + 1 := by
  unfold wrap64
  omega
theorem wrap_id {x : Int} (h1 : -9223372036854775808 ≤ x) (h2 : x ≤ 9223372036854775807) : wrap64 x = x := by
  unfold wrap64
  omega
theorem drop_getD {α : Type} (l : List α) (z : α) (i : Int) (h0 : 0 ≤ i) (h : i < (l.length : Int)) : l.drop i.toNat = l.getD i.toNat z :: l.drop (i + 1).toNat := by
  have hi : i.toNat < l.length := by omega
  rw [List.drop_eq_getElem_cons hi, List.getD_eq_getElem?_getD, List.getElem?_eq_getElem hi, show (i + 1).toNat = i.toNat + 1 by omega]
  rfl
theorem getD_mem {α : Type} (l : List α) (z : α) (i : Int) (h0 : 0 ≤ i) (h : i < (l.length : Int)) : l.getD i.toNat z ∈ l := by
  have hi : i.toNat < l.length := by omega
  rw [List.getD_eq_getElem?_getD, List.getElem?_eq_getElem hi]
  exact List.getElem_mem hi
theorem drop_end {α : Type} (l : List α) (i : Int) (h : (l.length : Int) ≤ i) : l.drop i.toNat = [] := List.drop_eq_nil_of_le (by omega)
/-- Cells set one after another. -/
theorem take_set_succ {α β : Type} (f : β → α) (l : List β) (acc : List α) (z : β) (i : Int) (h0 : 0 ≤ i) (h : i < (l.length : Int)) (ha : acc.length = l.length) (ht : acc.take i.toNat = (l.map f).take i.toNat) :
    (acc.set i.toNat (f (l.getD i.toNat z))).take (i + 1).toNat = (l.map f).take (i + 1).toNat := by
  have hi : i.toNat < l.length := by omega
  rw [show (i + 1).toNat = i.toNat + 1 by omega, List.take_add_one, List.take_add_one, List.take_set_of_le (by omega), ht]
  congr 1
  rw [List.getElem?_set_self (by omega), List.getElem?_map, List.getElem?_eq_getElem hi, List.getD_eq_getElem?_getD, List.getElem?_eq_getElem hi]
  rfl
theorem take_all {α : Type} (acc l : List α) (i : Int) (h : (acc.length : Int) ≤ i) (ha : acc.length = l.length) (ht : acc.take i.toNat = l.take i.toNat) : acc = l := by
  rwa [List.take_of_length_le (by omega), List.take_of_length_le (by omega)] at ht
end Go.Proofs.Ytjlhfemfmkdlhaa.Pure
