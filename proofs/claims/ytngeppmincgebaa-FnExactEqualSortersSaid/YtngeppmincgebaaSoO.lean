/-
  Readings of sorters.
-/
import Derived.Test.YtngeppmincgebaaRnO
import Derived.Test.YtngeppmincgebaaSoA
namespace Go.Proofs.Ytngeppmincgebaa.Ab
open Go.RowKit
def okS (s : So) : Prop := okL okRw s.input ∧ okI .i64 s.pos ∧ okL okRw s.heap ∧ okL okRw s.dfr ∧ okL okRw s.out ∧ okL (okL okRw) s.runs ∧ okI .i64 s.lp ∧ okI .i64 s.rp ∧ okI .i64 s.ph ∧ okI .i64 s.wr
theorem o_so : Opens Go.Proofs.Try.prog 65 soE okS := by
  have h := opens_struct Go.Proofs.Try.underlying65 (by kernel_rfl) (fs_sl (T := rwT) rfl (by kernel_rfl) Go.Proofs.Try.underlying22 (by kernel_rfl) o_rw (fs_int rfl (by kernel_rfl) Go.Proofs.Try.underlying3 (fs_sl (T := rwT) rfl (by kernel_rfl) Go.Proofs.Try.underlying22 (by kernel_rfl) o_rw (fs_sl (T := rwT) rfl (by kernel_rfl) Go.Proofs.Try.underlying22 (by kernel_rfl) o_rw (fs_sl (T := rwT) rfl (by kernel_rfl) Go.Proofs.Try.underlying22 (by kernel_rfl) o_rw
    (fs_sl (T := rnT) rfl (by kernel_rfl) Go.Proofs.Try.underlying39 (by kernel_rfl) o_rn (fs_int rfl (by kernel_rfl) Go.Proofs.Try.underlying3 (fs_int rfl (by kernel_rfl) Go.Proofs.Try.underlying3 (fs_int rfl (by kernel_rfl) Go.Proofs.Try.underlying3 (fs_int rfl (by kernel_rfl) Go.Proofs.Try.underlying3 fs_nil))))))))))
  exact opens_via h (fun p => ⟨p.1, p.2.1, p.2.2.1, p.2.2.2.1, p.2.2.2.2.1, p.2.2.2.2.2.1, p.2.2.2.2.2.2.1, p.2.2.2.2.2.2.2.1, p.2.2.2.2.2.2.2.2.1, p.2.2.2.2.2.2.2.2.2.1⟩) (fun _ => rfl)
    (fun _ h => ⟨h.1, h.2.1, h.2.2.1, h.2.2.2.1, h.2.2.2.2.1, h.2.2.2.2.2.1, h.2.2.2.2.2.2.1, h.2.2.2.2.2.2.2.1, h.2.2.2.2.2.2.2.2.1, h.2.2.2.2.2.2.2.2.2.1⟩)
theorem rd_of {s : So} (h : okS s) : rdSo s := ⟨h.1.1, h.2.2.1.1, h.2.2.2.1.1, h.2.2.2.2.1.1, h.2.2.2.2.2.1.1, fun x hx => (h.2.2.2.2.2.1.2 x hx).1⟩
end Go.Proofs.Ytngeppmincgebaa.Ab
