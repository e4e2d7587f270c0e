/- Plain laws: the low 30 bits, products of small numbers (no program in sight). -/
import Derived.Test.YtbllanmhbfnagaaDoorF4
import Derived.Test.YtbllanmhbfnagaaDoorWC
set_option linter.unusedVariables false
set_option linter.unusedSimpArgs false
namespace Go.Proofs.YtbllanmhbfnagaaDoor
open Go.RowKit
theorem and_30 (a : Int) : bits BinOp.and IntKind.i64 a 1073741823 = a % 1073741824 := by
  show IntKind.i64.wrap ((BitVec.ofInt 64 a &&& BitVec.ofInt 64 1073741823).toNat : Int) = _
  rw [BitVec.toNat_and, BitVec.toNat_ofInt, show (BitVec.ofInt 64 1073741823).toNat = 2 ^ 30 - 1 from rfl, Nat.and_two_pow_sub_one_eq_mod, IntKind.wrap_i64]
  simp only [Nat.reducePow]
  omega
theorem mask_mul (n a b : Int) (h : modB n = true) : ∃ X Y V : Int, bits BinOp.and IntKind.i64 a 1073741823 = X ∧ bits BinOp.and IntKind.i64 b 1073741823 = Y ∧ mulI n X Y = V ∧ 0 ≤ X ∧ X < 1073741824 ∧ 0 ≤ Y ∧ Y < 1073741824 ∧
    0 ≤ X * Y ∧ X * Y ≤ 1152921504606846976 ∧ (X * Y) % n = V := by
  refine ⟨a % 1073741824, b % 1073741824, _, and_30 a, and_30 b, rfl, by omega, by omega, by omega, by omega, ?_, ?_, ?_⟩
  · exact Int.mul_nonneg (by omega) (by omega)
  · have h1 : (a % 1073741824) * (b % 1073741824) ≤ 1073741824 * 1073741824 := Int.mul_le_mul (by omega) (by omega) (by omega) (by omega)
    omega
  · rw [mulI_of h]
end Go.Proofs.YtbllanmhbfnagaaDoor
