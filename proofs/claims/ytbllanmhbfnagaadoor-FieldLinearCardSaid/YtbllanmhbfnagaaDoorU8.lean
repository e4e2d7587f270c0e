/- SHA-256 of the reference: turning a word (walk). SHA-256 of the reference: the constants (walks). -/
import Derived.Test.YtbllanmhbfnagaaDoorU7
import Derived.Test.YtbllanmhbfnagaaDoorU5
import Derived.Test.YtbllanmhbfnagaaDoorU0
set_option linter.unusedVariables false
set_option linter.unusedSimpArgs false
namespace Go.Proofs.YtbllanmhbfnagaaDoor
open Go.RowKit
theorem turn_or (x n : Nat) (hx : x < 4294967296) (hn : n < 32) (h0 : 0 < n) : bits BinOp.or IntKind.u32 ((x : Int) / 2 ^ n) ((x : Int) * 2 ^ (32 - n) % 4294967296) = ((rotl x (32 - n) : Nat) : Int) := by
  have e1 : (x : Int) * 2 ^ (32 - n) % 4294967296 = ((x * 2 ^ (32 - n) % 4294967296 : Nat) : Int) := by rw [Int.natCast_emod, Int.natCast_mul, Int.natCast_pow]; rfl
  have e2 : (x : Int) / 2 ^ n = ((x / 2 ^ n : Nat) : Int) := by rw [Int.natCast_ediv, Int.natCast_pow]; rfl
  rw [e1, e2, u32_or_nat _ _ (Nat.lt_of_le_of_lt (Nat.div_le_self _ _) hx) (by omega)]
  unfold rotl
  rw [Nat.or_comm, show 32 - (32 - n) = n by omega]
set_option maxHeartbeats 1000000 in
theorem turn_any (x n : Nat) (w : World) (hx : x < 4294967296) (h0 : 0 < n) (hn : n < 32) :
    Calls Tryd.prog 113 #[.int .u32 x, .int .i64 n] w fun e w' => e = .returned (.int .u32 (rotl x (32 - n))) ∧ Drew w w' := by
  have n0 : 0 ≤ (n : Int) := by omega
  have n1 : (n : Int) < 32 := by omega
  have e1 : IntKind.i64.wrap (32 - (n : Int)) = 32 - n := by simp only [IntKind.wrap_i64]; omega
  have e2 : 0 ≤ 32 - (n : Int) := by omega
  have e3 : (32 - (n : Int)).toNat = 32 - n := by omega
  have e4 : 32 - (n : Int) < 32 := by omega
  have HT := mkHid (turn_or x n hx hn h0)
  go_enter Tryd.func113, Tryd.ntmps113
  go_upto_region 1 with (fail)
  go_quiet (fail)
  go_wp2
  go_ret
  exact ⟨ret_int HT.out, Drew.of _ _⟩
end Go.Proofs.YtbllanmhbfnagaaDoor
namespace Go.Proofs.YtbllanmhbfnagaaDoor
open Go.RowKit
set_option maxHeartbeats 1000000 in
set_option maxRecDepth 100000 in
theorem adds_any (w : World) :
    Calls Tryd.prog 112 #[] w fun e w' => e = .returned (.slice (some ⟨w.heap.size, 0, none⟩) 64 64) ∧ w' = w.alloc (.cells (wcells kTab) 84) := by
  go_enter Tryd.func112, Tryd.ntmps112
  go_wp2
  go_ret
  exact ⟨rfl, rfl⟩
set_option maxHeartbeats 1000000 in
set_option maxRecDepth 100000 in
theorem firsts_any (w : World) :
    Calls Tryd.prog 89 #[] w fun e w' => e = .returned (.slice (some ⟨w.heap.size, 0, none⟩) 8 8) ∧ w' = w.alloc (.cells (wcells (stL firstF)) 84) := by
  go_enter Tryd.func89, Tryd.ntmps89
  go_wp2
  go_ret
  exact ⟨rfl, rfl⟩
end Go.Proofs.YtbllanmhbfnagaaDoor
