/-
  OPERATIONS ON BITS.
-/
import Derived.Test.YtkcicbigpbdjpaaAbV
namespace Go.Proofs.Ytkcicbigpbdjpaa.Ab
open Go.RowKit
set_option linter.unusedVariables false

def bAnd (k : IntKind) (a b : Int) : Int := k.wrap ((BitVec.ofInt k.bits a &&& BitVec.ofInt k.bits b).toNat : Nat)
def bXor (k : IntKind) (a b : Int) : Int := k.wrap ((BitVec.ofInt k.bits a ^^^ BitVec.ofInt k.bits b).toNat : Nat)
def bShr (k : IntKind) (a : Int) (n : Nat) : Int := a.fdiv (2 ^ (min n k.bits))

section
variable {P : Program} {o : Oper} {ρ : Operand → V} {H : List Reg}
theorem step_and {t t' : TypeId} {x y : Operand} {k : IntKind} {a b : Int} (ho : o.op = .binOp .and t x y t') (hx : ρ x = .k (.int k a)) (hy : ρ y = .k (.int k b)) : Step P o ρ H (.k (.int k (bAnd k a b))) H :=
  step_bin ho hx hy fun w => by rw [Sem.run_bind, guard_int]; simp [binOp, Op.intBits, bAnd]
theorem step_xor {t t' : TypeId} {x y : Operand} {k : IntKind} {a b : Int} (ho : o.op = .binOp .xor t x y t') (hx : ρ x = .k (.int k a)) (hy : ρ y = .k (.int k b)) : Step P o ρ H (.k (.int k (bXor k a b))) H :=
  step_bin ho hx hy fun w => by rw [Sem.run_bind, guard_int]; simp [binOp, Op.intBits, bXor]
theorem step_shr {t t' : TypeId} {x y : Operand} {k k' : IntKind} {a : Int} {n : Nat} (ho : o.op = .binOp .shr t x y t') (hx : ρ x = .k (.int k a)) (hy : ρ y = .k (.int k' n)) : Step P o ρ H (.k (.int k (bShr k a n))) H :=
  step_bin ho hx hy fun w => by rw [Sem.run_bind, guard_int]; simp [binOp, Op.shift, bShr, show ¬ ((n : Int) < 0) by omega]
end

/-- And with 255: a byte. -/
theorem and_byte (a : Int) : 0 ≤ bAnd .i64 a 255 ∧ bAnd .i64 a 255 ≤ 255 := by
  have h : (BitVec.ofInt 64 a &&& BitVec.ofInt 64 255).toNat ≤ 255 := by
    rw [BitVec.toNat_and]
    exact Nat.le_trans Nat.and_le_right (by decide)
  have h' : (BitVec.ofInt IntKind.i64.bits a &&& BitVec.ofInt IntKind.i64.bits 255).toNat ≤ 255 := h
  unfold bAnd
  rw [IntKind.wrap_i64]
  omega
end Go.Proofs.Ytkcicbigpbdjpaa.Ab
