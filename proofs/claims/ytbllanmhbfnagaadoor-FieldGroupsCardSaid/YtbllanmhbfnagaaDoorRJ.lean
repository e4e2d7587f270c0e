/- Groups of the reference: Make (walk). -/
import Derived.Test.YtbllanmhbfnagaaDoorRI
set_option linter.unusedVariables false
set_option linter.unusedSimpArgs false
namespace Go.Proofs.YtbllanmhbfnagaaDoor
open Go.RowKit Go.Sort
set_option maxHeartbeats 2000000 in
set_option maxRecDepth 100000 in
theorem rmake_no (q : Int) (w : World) (h : vgB (2 * q + 1) q 4 = false) :
    Calls Tryd.prog 45 #[.int .i64 q] w fun e w' => e = .returned (.tuple #[grpV 0 0 0, .bool false]) ∧ Below w.heap.size w w' := by
  have HV := mkHid h
  clear h
  have B1 := mkHid ((Below.refl w.heap.size w).alloc (Nat.le_refl _) (.cells (gcells 0 0 0) 38))
  by_cases h1 : q < 5
  · go_enter Tryd.func45, Tryd.ntmps45
    go_wp2
    exact bodyPost_ret (v := .tuple #[.agg (gcells 0 0 0), .bool false]) (results_cell_tmp_row (p := 2) (u := 3) (by kernel_rfl) _ _ w.heap.size 38 (gcells 0 0 0) (0, 0) _ rfl (HasG.new w 0 0 0) Tryd.underlying38 rfl (ginf 0 0 0)) rfl ⟨rfl, B1.out⟩
  by_cases h2 : 1152921504606846976 ≤ q
  · go_enter Tryd.func45, Tryd.ntmps45
    go_wp2
    exact bodyPost_ret (v := .tuple #[.agg (gcells 0 0 0), .bool false]) (results_cell_tmp_row (p := 2) (u := 3) (by kernel_rfl) _ _ w.heap.size 38 (gcells 0 0 0) (0, 0) _ rfl (HasG.new w 0 0 0) Tryd.underlying38 rfl (ginf 0 0 0)) rfl ⟨rfl, B1.out⟩
  go_enter Tryd.func45, Tryd.ntmps45
  go_wp2_with (first | (refine wpList_store_abs rfl 38 (.tmp 4) (.tmp 16) rfl (w.heap.size + 1) (gcells (2 * q + 1) q 4) ?s1 ?s2 38 _ (heap_alloc2_new _ _ _) (ginf _ _ _) rfl (gone _ _ _) ?_; (case s1 => rfl); (case s2 => rfl); intro W2 s2 u2; have S2 : Hid (HasG W2 (w.heap.size + 1) (2 * q + 1) q 4) := mkHid s2; have R2 := mkHid ((HasG.new w 0 0 0).alloc (.cells (gcells 0 0 0) 38) |>.upd u2 (by omega)); have C2 := mkHid (u2.below (B1.out.alloc B1.out.size (.cells (gcells 0 0 0) 38)) (by omega)); clear s2 u2) | (refine wpList_load_row rfl 38 (.tmp 4) rfl (w.heap.size + 1) ?x1 38 (gcells (2 * q + 1) q 4) (0, 0) _ S2.out Tryd.underlying38 rfl (ginf _ _ _) ?_; (case x1 => rfl)))
  refine (rvalid_group_any (2 * q + 1) q 4 _).mono ?_
  rintro e w3 ⟨rfl, b3⟩
  rw [HV.out]
  have R3 := mkHid (R2.out.below b3)
  have S3 := mkHid (S2.out.below b3)
  have C3 := mkHid (C2.out.trans (b3.mono C2.out.size))
  clear R2 S2 C2 b3
  go_wp2_with (refine wpList_store_abs rfl 38 (.tmp 2) (.tmp 20) rfl w.heap.size (gcells 0 0 0) ?t1 ?t2 38 _ R3.out (ginf _ _ _) rfl (gone _ _ _) ?_; (case t1 => rfl); (case t2 => rfl); intro W4 s4 u4; have S4 : Hid (HasG W4 w.heap.size 0 0 0) := mkHid s4; have C4 := mkHid (u4.below C3.out (by omega)); clear s4 u4 R3 S3 C3)
  exact bodyPost_ret (v := .tuple #[.agg (gcells 0 0 0), .bool false]) (results_cell_tmp_row (p := 2) (u := 3) (by kernel_rfl) _ _ w.heap.size 38 (gcells 0 0 0) (0, 0) _ rfl S4.out Tryd.underlying38 rfl (ginf 0 0 0)) rfl ⟨rfl, C4.out⟩
set_option maxHeartbeats 2000000 in
set_option maxRecDepth 100000 in
theorem rmake_yes (q : Int) (w : World) (h : vgB (2 * q + 1) q 4 = true) :
    Calls Tryd.prog 45 #[.int .i64 q] w fun e w' => e = .returned (.tuple #[grpV (2 * q + 1) q 4, .bool true]) ∧ Below w.heap.size w w' := by
  have HV := mkHid h
  have B1 := mkHid ((Below.refl w.heap.size w).alloc (Nat.le_refl _) (.cells (gcells 0 0 0) 38))
  have h1 : ¬ q < 5 := by have := ((vgB_iff _ _ _).1 h).q5; omega
  have h2 : ¬ 1152921504606846976 ≤ q := by have := ((vgB_iff _ _ _).1 h).qm; omega
  clear h
  go_enter Tryd.func45, Tryd.ntmps45
  go_wp2_with (first | (refine wpList_store_abs rfl 38 (.tmp 4) (.tmp 16) rfl (w.heap.size + 1) (gcells (2 * q + 1) q 4) ?s1 ?s2 38 _ (heap_alloc2_new _ _ _) (ginf _ _ _) rfl (gone _ _ _) ?_; (case s1 => rfl); (case s2 => rfl); intro W2 s2 u2; have S2 : Hid (HasG W2 (w.heap.size + 1) (2 * q + 1) q 4) := mkHid s2; have R2 := mkHid ((HasG.new w 0 0 0).alloc (.cells (gcells 0 0 0) 38) |>.upd u2 (by omega)); have C2 := mkHid (u2.below (B1.out.alloc B1.out.size (.cells (gcells 0 0 0) 38)) (by omega)); clear s2 u2) | (refine wpList_load_row rfl 38 (.tmp 4) rfl (w.heap.size + 1) ?x1 38 (gcells (2 * q + 1) q 4) (0, 0) _ S2.out Tryd.underlying38 rfl (ginf _ _ _) ?_; (case x1 => rfl)))
  refine (rvalid_group_any (2 * q + 1) q 4 _).mono ?_
  rintro e w3 ⟨rfl, b3⟩
  rw [HV.out]
  have R3 := mkHid (R2.out.below b3)
  have S3 := mkHid (S2.out.below b3)
  have C3 := mkHid (C2.out.trans (b3.mono C2.out.size))
  clear R2 S2 C2 b3
  go_wp2_with (first | (refine wpList_load_row rfl 38 (.tmp 4) rfl (w.heap.size + 1) ?x2 38 (gcells (2 * q + 1) q 4) (0, 0) _ S3.out Tryd.underlying38 rfl (ginf _ _ _) ?_; (case x2 => rfl)) | (refine wpList_store_abs rfl 38 (.tmp 2) (.tmp 21) rfl w.heap.size (gcells (2 * q + 1) q 4) ?t1 ?t2 38 _ R3.out (ginf _ _ _) rfl (gone _ _ _) ?_; (case t1 => rfl); (case t2 => rfl); intro W4 s4 u4; have S4 : Hid (HasG W4 w.heap.size (2 * q + 1) q 4) := mkHid s4; have C4 := mkHid (u4.below C3.out (by omega)); clear s4 u4 R3 S3 C3))
  exact bodyPost_ret (v := .tuple #[.agg (gcells (2 * q + 1) q 4), .bool true]) (results_cell_tmp_row (p := 2) (u := 3) (by kernel_rfl) _ _ w.heap.size 38 (gcells (2 * q + 1) q 4) (0, 0) _ rfl S4.out Tryd.underlying38 rfl (ginf _ _ _)) rfl ⟨rfl, C4.out⟩
end Go.Proofs.YtbllanmhbfnagaaDoor
