/- FieldPowers: what the property's function computes, part join (walk; printed by wip/tools/genlc2.py). -/
import Derived.Test.YtbllanmhbfnagaaDoorLCA
import Derived.Test.YtbllanmhbfnagaaDoorLCB
import Derived.Test.YtbllanmhbfnagaaDoorLCD
import Derived.Test.YtbllanmhbfnagaaDoorLCE
import Derived.Test.YtbllanmhbfnagaaDoorLCC
set_option linter.unusedVariables false
set_option linter.unusedSimpArgs false
namespace Go.Proofs.YtbllanmhbfnagaaDoor
open Go.RowKit Go.Sort
theorem powers_walk (n0 a b c : Int) (w : World) (hT : Tab w) (b0 : -32768 ≤ b) (b1 : b ≤ 32767) (c0 : -32768 ≤ c) (c1 : c ≤ 32767) :
    Calls Tryd.prog 6 #[.int .i64 n0, .int .i64 a, .int .i16 b, .int .i16 c] w fun e w' => e = .returned (.bool true) ∧ Below w.heap.size w w' := by
  have hm := modI_ok n0
  cases hok : invB (modI n0) a with
  | true => exact powers_A n0 _ a b c w hT b0 b1 c0 c1 rfl hm hok
  | false =>
    by_cases hbs : 0 ≤ b
    · by_cases hcs : 0 ≤ c
      · exact powers_C n0 _ a b c w hT b0 b1 c0 c1 rfl hm hok hbs hcs
      · exact powers_B1 n0 _ a b c w hT b0 b1 c0 c1 rfl hm hok hbs hcs
    · by_cases hcs : 0 ≤ c
      · exact powers_B2 n0 _ a b c w hT b0 b1 c0 c1 rfl hm hok hbs hcs
      · exact powers_B3 n0 _ a b c w hT b0 b1 c0 c1 rfl hm hok hbs hcs
end Go.Proofs.YtbllanmhbfnagaaDoor
