/- Plain lemmas on worlds: two boxes made first, then a call that only makes, then one that only draws. -/
import Derived.Test.YtbnlacajjkecdaaWMore
namespace Go.Proofs.Ytbnlacajjkecdaa.P
open Go.RowKit Go.Proofs.YtbnlacajjkecdaaW.PrintWords Go.Proofs.YtbnlacajjkecdaaW.PrintLast Go.Proofs.YtbnlacajjkecdaaW.PrintMore
theorem al1_s (w : World) (o : Obj) : (w.alloc o).heap.size = w.heap.size + 1 := by simp
theorem al2_0 (w : World) (o1 o2 : Obj) : ((w.alloc o1).alloc o2).heap[w.heap.size]? = some o1 := blk_alloc (blk_new w o1) o2
theorem al2_1 (w : World) (o1 o2 : Obj) : ((w.alloc o1).alloc o2).heap[w.heap.size + 1]? = some o2 := by
  have h := blk_new (w.alloc o1) o2
  rwa [al1_s] at h
theorem al2_s (w : World) (o1 o2 : Obj) : ((w.alloc o1).alloc o2).heap.size = w.heap.size + 2 := by
  rw [al1_s, al1_s]
theorem al2_b (w : World) (o1 o2 : Obj) : Below w.heap.size w ((w.alloc o1).alloc o2) := ((Below.refl w.heap.size w).alloc (Nat.le_refl _) _).alloc (by simp) _
/-- Behind a call that only makes: the two boxes are there, and nothing of what came in has turned. -/
theorem two_boxes {w w1 : World} {o1 o2 : Obj} (hb : Below ((w.alloc o1).alloc o2).heap.size ((w.alloc o1).alloc o2) w1) :
    w1.heap[w.heap.size]? = some o1 ∧ w1.heap[w.heap.size + 1]? = some o2 ∧ Below w.heap.size w w1 ∧ w.heap.size + 1 < w1.heap.size := by
  have hs := al2_s w o1 o2
  refine ⟨(hb.block _ (by omega)).trans (al2_0 w o1 o2), (hb.block _ (by omega)).trans (al2_1 w o1 o2), (al2_b w o1 o2).trans (hb.mono (by omega)), ?_⟩
  have := hb.size
  omega
theorem two_boxes_drawn {w w1 w2 : World} {o1 o2 : Obj} (hd : Drawn0 w1 w2) (b0 : w1.heap[w.heap.size]? = some o1) (b1 : w1.heap[w.heap.size + 1]? = some o2) (HB : Below w.heap.size w w1) (hz : w.heap.size + 1 < w1.heap.size) :
    w2.heap[w.heap.size]? = some o1 ∧ w2.heap[w.heap.size + 1]? = some o2 ∧ Below w.heap.size w w2 ∧ w.heap.size + 1 < w2.heap.size := by
  obtain ⟨n, rfl⟩ := hd
  exact ⟨b0, b1, pw_below_drewN HB n, hz⟩
end Go.Proofs.Ytbnlacajjkecdaa.P
