/-
  Readings of rows and runs.
-/
import Derived.Test.YtngeppmincgebaaAbR
import Derived.Test.YtngeppmincgebaaRnB
namespace Go.Proofs.Ytngeppmincgebaa.Ab
open Go.RowKit
def okRw (c : Rw) : Prop := okI .i64 c.a ∧ okI .i64 c.b ∧ okI .i64 c.c
theorem o_rw : Opens Go.Proofs.Try.prog 77 rwE okRw := by
  have h := opens_struct Go.Proofs.Try.underlying77 (by kernel_rfl) (fs_int rfl (by kernel_rfl) Go.Proofs.Try.underlying3 (fs_int rfl (by kernel_rfl) Go.Proofs.Try.underlying3 (fs_int rfl (by kernel_rfl) Go.Proofs.Try.underlying3 fs_nil)))
  exact opens_via h (fun p => ⟨p.1, p.2.1, p.2.2.1⟩) (fun _ => rfl) (fun _ h => ⟨h.1, h.2.1, h.2.2.1⟩)
theorem o_rows : Opens Go.Proofs.Try.prog 22 (fun l : List Rw => [rwL l]) (okL okRw) := opens_slice Go.Proofs.Try.underlying22 (by kernel_rfl) o_rw
theorem o_rn : Opens Go.Proofs.Try.prog 91 (fun l : List Rw => [rwL l]) (okL okRw) := by
  have h := opens_struct Go.Proofs.Try.underlying91 (by kernel_rfl) (fs_sl (T := rwT) rfl (by kernel_rfl) Go.Proofs.Try.underlying22 (by kernel_rfl) o_rw fs_nil)
  exact opens_via h (fun p => p.1) (fun _ => rfl) (fun _ h => h.1)
theorem o_runs : Opens Go.Proofs.Try.prog 39 (fun l : List Rn => [rnL l]) (okL (okL okRw)) := opens_slice (T := rnT) Go.Proofs.Try.underlying39 (by kernel_rfl) o_rn
theorem okLL {rs : List Rn} (h : okL (okL okRw) rs) : rs.length ≤ 9223372036854775807 ∧ ∀ x ∈ rs, x.length ≤ 9223372036854775807 := ⟨h.1, fun x hx => (h.2 x hx).1⟩
end Go.Proofs.Ytngeppmincgebaa.Ab
