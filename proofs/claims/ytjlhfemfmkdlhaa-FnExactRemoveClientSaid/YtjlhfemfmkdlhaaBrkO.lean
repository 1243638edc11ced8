/-
  Readings of brokers.
-/
import Derived.Test.YtjlhfemfmkdlhaaAbR
import Derived.Test.YtjlhfemfmkdlhaaBrkA
namespace Go.Proofs.Ytjlhfemfmkdlhaa.Ab
open Go.RowKit
def okCl (c : Cl) : Prop := okI .i64 c.a ∧ okI .i64 c.b ∧ okI .i64 c.c
theorem o_cl : Opens Go.Proofs.Try.prog 95 clE okCl := by
  have h := opens_struct Go.Proofs.Try.underlying95 (by kernel_rfl) (fs_int rfl (by kernel_rfl) Go.Proofs.Try.underlying3 (fs_int rfl (by kernel_rfl) Go.Proofs.Try.underlying3 (fs_int rfl (by kernel_rfl) Go.Proofs.Try.underlying3 fs_nil)))
  exact opens_via h (fun p => ⟨p.1, p.2.1, p.2.2.1⟩) (fun _ => rfl) (fun _ h => ⟨h.1, h.2.1, h.2.2.1⟩)
def okBr (b : Br) : Prop := okI .i64 b.pool ∧ okI .i64 b.next ∧ okL okCl b.act ∧ okL okCl b.wait
theorem o_br : Opens Go.Proofs.Try.prog 32 brE okBr := by
  have h := opens_struct Go.Proofs.Try.underlying32 (by kernel_rfl) (fs_int rfl (by kernel_rfl) Go.Proofs.Try.underlying3 (fs_int rfl (by kernel_rfl) Go.Proofs.Try.underlying3
    (fs_sl (T := clT) rfl (by kernel_rfl) Go.Proofs.Try.underlying30 (by kernel_rfl) o_cl (fs_sl (T := clT) rfl (by kernel_rfl) Go.Proofs.Try.underlying30 (by kernel_rfl) o_cl fs_nil))))
  exact opens_via h (fun p => ⟨p.1, p.2.1, p.2.2.1, p.2.2.2.1⟩) (fun _ => rfl) (fun _ h => ⟨h.1, h.2.1, h.2.2.1, h.2.2.2.1⟩)
end Go.Proofs.Ytjlhfemfmkdlhaa.Ab
