/- FieldPowers: what the property's function computes, part 0 (walk; printed by wip/tools/genlc2.py). -/
import Derived.Test.YtbllanmhbfnagaaDoorLB
import Derived.Test.YtbllanmhbfnagaaDoorF5
set_option linter.unusedVariables false
set_option linter.unusedSimpArgs false
namespace Go.Proofs.YtbllanmhbfnagaaDoor
open Go.RowKit Go.Sort
theorem bc_bd (b c : Int) (b0 : -32768 ≤ b) (b1 : b ≤ 32767) (c0 : -32768 ≤ c) (c1 : c ≤ 32767) : b * c ≤ 1073741824 ∧ -1073741824 ≤ b * c := by
  have h1 : 0 ≤ (32768 + b) * (32768 + c) := Int.mul_nonneg (by omega) (by omega)
  have h2 : 0 ≤ (32768 - b) * (32768 - c) := Int.mul_nonneg (by omega) (by omega)
  have h3 : 0 ≤ (32768 + b) * (32768 - c) := Int.mul_nonneg (by omega) (by omega)
  have h4 : 0 ≤ (32768 - b) * (32768 + c) := Int.mul_nonneg (by omega) (by omega)
  constructor <;> grind
def modI (n : Int) : Int := if 1 ≤ n ∧ n < 2305843009213693952 then n else 12
theorem modI_ok (n : Int) : modB (modI n) = true := by
  unfold modI
  split
  · rename_i h; exact modB_iff.2 h
  · decide
theorem modulus_any (n : Int) (w : World) :
    Calls Tryd.prog 36 #[.int .i64 n] w fun e w' => e = .returned (.int .i64 (modI n)) ∧ w = w' := by
  by_cases h1 : 1 ≤ n
  · by_cases h2 : n < 2305843009213693952
    · have h := mkHid (show modI n = n from if_pos ⟨h1, h2⟩)
      go_enter Tryd.func36, Tryd.ntmps36
      go_wp2
      go_ret
      exact ⟨by rw [h.out]; rfl, rfl⟩
    · have h := mkHid (show modI n = 12 from if_neg (fun h => h2 h.2))
      go_enter Tryd.func36, Tryd.ntmps36
      go_wp2
      go_ret
      exact ⟨by rw [h.out]; rfl, rfl⟩
  · have h := mkHid (show modI n = 12 from if_neg (fun h => h1 h.1))
    go_enter Tryd.func36, Tryd.ntmps36
    go_wp2
    go_ret
    exact ⟨by rw [h.out]; rfl, rfl⟩
end Go.Proofs.YtbllanmhbfnagaaDoor
