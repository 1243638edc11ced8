/- The plain statement of the law FnExactEqualBrokers, over the printed function. -/
import Derived.Test.YtjlhfemfmkdlhaaPx8
import Derived.Test.YtjlhfemfmkdlhaaOpen
namespace Go.Proofs.Ytjlhfemfmkdlhaa.StFnExactEqualBrokers
open Go.RowKit Go.Proofs.Ytjlhfemfmkdlhaa.P Go.Proofs.YtjlhfemfmkdlhaaW.PrintWords Go.Proofs.Ytjlhfemfmkdlhaa.Opn
/-! #### struct type 32 -/
structure S32 where
  f0 : Int
  f1 : Int
  f2 : (List S95)
  f3 : (List S95)
def z32 : S32 := ⟨(0 : Int), (0 : Int), ([] : List S95), ([] : List S95)⟩
def k32 : Kd S32 := Kd.iso (Kd.pair (Kd.int .i64) (Kd.pair (Kd.int .i64) (Kd.pair (Kd.slice 95 k95) (Kd.slice 95 k95)))) (fun x : S32 => (x.f0, x.f1, x.f2, x.f3))
theorem k32_open {w : World} {x : S32} {cs : List Value} (h : k32.K w x cs) : ∃ A2 c2 A3 c3, cs = [.int .i64 x.f0, .int .i64 x.f1, .slice A2 x.f2.length c2, .slice A3 x.f3.length c3] ∧ x.f2.length ≤ c2 ∧ k95.C w A2 x.f2.length x.f2 ∧ x.f3.length ≤ c3 ∧ k95.C w A3 x.f3.length x.f3 := by
  obtain ⟨_, _, rfl, rfl, ⟨_, _, rfl, rfl, ⟨_, _, rfl, ⟨A2, c2, rfl, l2, g2⟩, ⟨A3, c3, rfl, l3, g3⟩⟩⟩⟩ := h
  exact ⟨A2, c2, A3, c3, rfl, l2, g2, l3, g3⟩
theorem k32_openM {w : World} {base : Nat} {ok : Nat → Prop} {x : S32} {cs : List Value} (h : k32.M w base ok x cs) : ∃ v2 v3, cs = [.int .i64 x.f0, .int .i64 x.f1, v2, v3] ∧ k95.R 95 w base ok v2 x.f2 ∧ k95.R 95 w base ok v3 x.f3 := by
  obtain ⟨_, _, rfl, rfl, ⟨_, _, rfl, rfl, ⟨_, _, rfl, ⟨v2, rfl, g2⟩, ⟨v3, rfl, g3⟩⟩⟩⟩ := h
  exact ⟨v2, v3, rfl, g2, g3⟩
theorem k32_mk (w : World) (x : S32) {A2 : Option Addr} {c2 : Nat} (l2 : x.f2.length ≤ c2) (g2 : k95.C w A2 x.f2.length x.f2) {A3 : Option Addr} {c3 : Nat} (l3 : x.f3.length ≤ c3) (g3 : k95.C w A3 x.f3.length x.f3) : k32.K w x [.int .i64 x.f0, .int .i64 x.f1, .slice A2 x.f2.length c2, .slice A3 x.f3.length c3] := ⟨[.int .i64 x.f0], [.int .i64 x.f1, .slice A2 x.f2.length c2, .slice A3 x.f3.length c3], rfl, rfl, ⟨[.int .i64 x.f1], [.slice A2 x.f2.length c2, .slice A3 x.f3.length c3], rfl, rfl, ⟨[.slice A2 x.f2.length c2], [.slice A3 x.f3.length c3], rfl, ⟨A2, c2, rfl, l2, g2⟩, ⟨A3, c3, rfl, l3, g3⟩⟩⟩⟩
theorem k32_mkM (w : World) (base : Nat) (ok : Nat → Prop) (x : S32) {v2 : Value} (g2 : k95.R 95 w base ok v2 x.f2) {v3 : Value} (g3 : k95.R 95 w base ok v3 x.f3) : k32.M w base ok x [.int .i64 x.f0, .int .i64 x.f1, v2, v3] := ⟨[.int .i64 x.f0], [.int .i64 x.f1, v2, v3], rfl, rfl, ⟨[.int .i64 x.f1], [v2, v3], rfl, rfl, ⟨[v2], [v3], rfl, ⟨v2, rfl, g2⟩, ⟨v3, rfl, g3⟩⟩⟩⟩
/-- The numbers and lengths of a datum of type 95 are Go's. -/
def ok95 (x : S95) : Prop := (okI .i64) x.f0 ∧ (okI .i64) x.f1 ∧ (okI .i64) x.f2
/-- The numbers and lengths of a datum of type 32 are Go's. -/
def ok32 (x : S32) : Prop := (okI .i64) x.f0 ∧ (okI .i64) x.f1 ∧ (okL ok95) x.f2 ∧ (okL ok95) x.f3
def Pure : Prop := ∀ (x0 : S32) (x1 : S32), ok32 x0 → ok32 x1 → ∃ k, laws_FnExactEqualBrokers.f k x0.f0 x0.f1 x0.f2 x0.f3 x1.f0 x1.f1 x1.f2 x1.f3 = some true
end Go.Proofs.Ytjlhfemfmkdlhaa.StFnExactEqualBrokers
