/- Texts RnO, SoO in one. -/
import Derived.Test.YtojcojanokhnaaaAbR
import Derived.Test.YtojcojanokhnaaaGA
import Derived.Test.YtojcojanokhnaaaGB
set_option linter.unusedVariables false
set_option linter.unusedSimpArgs false
set_option maxRecDepth 20000
set_option maxHeartbeats 8000000
/- RnO -/
namespace Go.Proofs.Ytojcojanokhnaaa.Ab
open Go.RowKit
def okRw (c : Rw) : Prop := okI .i64 c.a ∧ okI .i64 c.b ∧ okI .i64 c.c
theorem o_rw : Opens Go.Proofs.Try.prog 105 rwE okRw := by
  have h := opens_struct Go.Proofs.Try.underlying105 (by kernel_rfl) (fs_int rfl (by kernel_rfl) Go.Proofs.Try.underlying3 (fs_int rfl (by kernel_rfl) Go.Proofs.Try.underlying3 (fs_int rfl (by kernel_rfl) Go.Proofs.Try.underlying3 fs_nil)))
  exact opens_via h (fun p => ⟨p.1, p.2.1, p.2.2.1⟩) (fun _ => rfl) (fun _ h => ⟨h.1, h.2.1, h.2.2.1⟩)
theorem o_rows : Opens Go.Proofs.Try.prog 50 (fun l : List Rw => [rwL l]) (okL okRw) := opens_slice Go.Proofs.Try.underlying50 (by kernel_rfl) o_rw
theorem o_rn : Opens Go.Proofs.Try.prog 119 (fun l : List Rw => [rwL l]) (okL okRw) := by
  have h := opens_struct Go.Proofs.Try.underlying119 (by kernel_rfl) (fs_sl (T := rwT) rfl (by kernel_rfl) Go.Proofs.Try.underlying50 (by kernel_rfl) o_rw fs_nil)
  exact opens_via h (fun p => p.1) (fun _ => rfl) (fun _ h => h.1)
theorem o_runs : Opens Go.Proofs.Try.prog 51 (fun l : List Rn => [rnL l]) (okL (okL okRw)) := opens_slice (T := rnT) Go.Proofs.Try.underlying51 (by kernel_rfl) o_rn
theorem okLL {rs : List Rn} (h : okL (okL okRw) rs) : rs.length ≤ 9223372036854775807 ∧ ∀ x ∈ rs, x.length ≤ 9223372036854775807 := ⟨h.1, fun x hx => (h.2 x hx).1⟩
end Go.Proofs.Ytojcojanokhnaaa.Ab

/- SoO -/
namespace Go.Proofs.Ytojcojanokhnaaa.Ab
open Go.RowKit
def okS (s : So) : Prop := okL okRw s.input ∧ okI .i64 s.pos ∧ okL okRw s.heap ∧ okL okRw s.dfr ∧ okL okRw s.out ∧ okL (okL okRw) s.runs ∧ okI .i64 s.lp ∧ okI .i64 s.rp ∧ okI .i64 s.ph ∧ okI .i64 s.wr
theorem o_so : Opens Go.Proofs.Try.prog 53 soE okS := by
  have h := opens_struct Go.Proofs.Try.underlying53 (by kernel_rfl) (fs_sl (T := rwT) rfl (by kernel_rfl) Go.Proofs.Try.underlying50 (by kernel_rfl) o_rw (fs_int rfl (by kernel_rfl) Go.Proofs.Try.underlying3 (fs_sl (T := rwT) rfl (by kernel_rfl) Go.Proofs.Try.underlying50 (by kernel_rfl) o_rw (fs_sl (T := rwT) rfl (by kernel_rfl) Go.Proofs.Try.underlying50 (by kernel_rfl) o_rw (fs_sl (T := rwT) rfl (by kernel_rfl) Go.Proofs.Try.underlying50 (by kernel_rfl) o_rw
    (fs_sl (T := rnT) rfl (by kernel_rfl) Go.Proofs.Try.underlying51 (by kernel_rfl) o_rn (fs_int rfl (by kernel_rfl) Go.Proofs.Try.underlying3 (fs_int rfl (by kernel_rfl) Go.Proofs.Try.underlying3 (fs_int rfl (by kernel_rfl) Go.Proofs.Try.underlying3 (fs_int rfl (by kernel_rfl) Go.Proofs.Try.underlying3 fs_nil))))))))))
  exact opens_via h (fun p => ⟨p.1, p.2.1, p.2.2.1, p.2.2.2.1, p.2.2.2.2.1, p.2.2.2.2.2.1, p.2.2.2.2.2.2.1, p.2.2.2.2.2.2.2.1, p.2.2.2.2.2.2.2.2.1, p.2.2.2.2.2.2.2.2.2.1⟩) (fun _ => rfl)
    (fun _ h => ⟨h.1, h.2.1, h.2.2.1, h.2.2.2.1, h.2.2.2.2.1, h.2.2.2.2.2.1, h.2.2.2.2.2.2.1, h.2.2.2.2.2.2.2.1, h.2.2.2.2.2.2.2.2.1, h.2.2.2.2.2.2.2.2.2.1⟩)
theorem rd_of {s : So} (h : okS s) : rdSo s := ⟨h.1.1, h.2.2.1.1, h.2.2.2.1.1, h.2.2.2.2.1.1, h.2.2.2.2.2.1.1, fun x hx => (h.2.2.2.2.2.1.2 x hx).1⟩
end Go.Proofs.Ytojcojanokhnaaa.Ab
