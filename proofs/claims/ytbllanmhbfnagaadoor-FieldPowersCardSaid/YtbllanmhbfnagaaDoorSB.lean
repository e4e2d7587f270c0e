/- SHA-256 of field: the table, the first state, a block (walks). -/
import Derived.Test.YtbllanmhbfnagaaDoorSA
set_option linter.unusedVariables false
set_option linter.unusedSimpArgs false
namespace Go.Proofs.YtbllanmhbfnagaaDoor
open Go.RowKit
set_option maxHeartbeats 1000000 in
set_option maxRecDepth 100000 in
theorem table_any (w : World) :
    Calls Tryd.prog 109 #[] w fun e w' => e = .returned (.agg (wcells kTab)) ∧ Below w.heap.size w w' := by
  go_enter Tryd.func109, Tryd.ntmps109
  go_wp2_with (refine wpList_store_row rfl 116 _ _ rfl w.heap.size (wcells kTab) rfl rfl 116 _ (heap_alloc_last _ _) (by kernel_rfl) (by kernel_rfl) (wcells_one _) ?_)
  exact bodyPost_ret (v := .agg (wcells kTab)) (results_cell_row (p := 0) (by kernel_rfl) _ _ w.heap.size 116 (wcells kTab) (0, 0) _ rfl (setRow_heap _ _ _ _ _ _ (heap_alloc_last _ _)) Tryd.underlying116 rfl (by kernel_rfl)) rfl ⟨rfl, below_setRow ((Below.refl _ _).alloc (Nat.le_refl _) _) (Nat.le_refl _) _⟩
set_option maxHeartbeats 1000000 in
set_option maxRecDepth 100000 in
theorem first_any (w : World) :
    Calls Tryd.prog 86 #[] w fun e w' => e = .returned (.agg (wcells (stL firstF))) ∧ Below w.heap.size w w' := by
  go_enter Tryd.func86, Tryd.ntmps86
  go_wp2_with (refine wpList_store_row rfl 86 _ _ rfl w.heap.size (wcells (stL firstF)) rfl rfl 86 _ (heap_alloc_last _ _) (by kernel_rfl) (by kernel_rfl) (wcells_one _) ?_)
  exact bodyPost_ret (v := .agg (wcells (stL firstF))) (results_cell_row (p := 0) (by kernel_rfl) _ _ w.heap.size 86 (wcells (stL firstF)) (0, 0) _ rfl (setRow_heap _ _ _ _ _ _ (heap_alloc_last _ _)) Tryd.underlying86 rfl (by kernel_rfl)) rfl ⟨rfl, below_setRow ((Below.refl _ _).alloc (Nat.le_refl _) _) (Nat.le_refl _) _⟩
end Go.Proofs.YtbllanmhbfnagaaDoor
