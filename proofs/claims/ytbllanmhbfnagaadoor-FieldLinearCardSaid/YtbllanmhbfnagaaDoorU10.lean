/- Groups of field: Make, Element, Power, Times, Over (walks). -/
import Derived.Laws.ResultCell
import Derived.Test.YtbllanmhbfnagaaDoorU6
import Derived.Test.YtbllanmhbfnagaaDoorU9
set_option linter.unusedVariables false
set_option linter.unusedSimpArgs false
namespace Go.Proofs.YtbllanmhbfnagaaDoor
open Go.RowKit
def gcells (P Q G : Int) : Array Value := #[.int .i64 P, .int .i64 Q, .int .i64 G]
def grpV (P Q G : Int) : Value := .agg (gcells P Q G)
/-- A block holds a group. -/
def HasG (w : World) (A : Nat) (P Q G : Int) : Prop := w.heap[A]? = some (.cells (gcells P Q G) 38 (0, 0))
theorem HasG.new (w : World) (P Q G : Int) : HasG (w.alloc (.cells (gcells P Q G) 38)) w.heap.size P Q G := heap_alloc_new w _
theorem HasG.lt {w : World} {A : Nat} {P Q G : Int} (h : HasG w A P Q G) : A < w.heap.size := (Array.getElem?_eq_some_iff.1 h).1
theorem HasG.below {w w' : World} {A : Nat} {P Q G : Int} (h : HasG w A P Q G) (hb : Below w.heap.size w w') : HasG w' A P Q G := by
  unfold HasG; rw [hb.block A h.lt]; exact h
theorem HasG.upd {w w' : World} {A g : Nat} {P Q G : Int} (h : HasG w A P Q G) (hu : Upd w w' g) (hg : A ≠ g) : HasG w' A P Q G := by
  unfold HasG; rw [hu.block A hg]; exact h
theorem HasG.alloc {w : World} {A : Nat} {P Q G : Int} (h : HasG w A P Q G) (o : Obj) : HasG (w.alloc o) A P Q G := by
  unfold HasG; rw [Below.heap_alloc w o A h.lt]; exact h
theorem HasG.drewN {w : World} {A : Nat} {P Q G : Int} (h : HasG w A P Q G) (m : Nat) : HasG (w.drewN m) A P Q G := h
theorem HasG.cells {w : World} {A : Nat} {P Q G : Int} (h : HasG w A P Q G) : w.cell? ⟨A, 0, none⟩ = some (.int .i64 P) ∧ w.cell? ⟨A, 1, none⟩ = some (.int .i64 Q) ∧ w.cell? ⟨A, 2, none⟩ = some (.int .i64 G) := by
  unfold HasG at h
  exact ⟨by simp only [World.cell?, h]; rfl, by simp only [World.cell?, h]; rfl, by simp only [World.cell?, h]; rfl⟩
theorem ginf (P Q G : Int) : (Tryd.prog.info? 38).map (·.size) = some (gcells P Q G).size := by show _ = some 3; kernel_rfl
theorem gone (P Q G : Int) : (gcells P Q G).all (·.oneCell') = true := by simp [gcells, Value.oneCell']
theorem results_cell_tmp_row {P : Program} {fn : Func} {p u : Tmp} {ty : TypeId} (h : fn.results = #[.cell p ty, .tmp u]) (tmps : Array Value) (w : World) (g : Nat) (t : TypeId) (cs : Array Value) (fr : Nat × Nat) (d : TypeDesc)
    (hp : tmps.getD p undef = .pointer (some ⟨g, 0, none⟩)) (hg : w.heap[g]? = some (.cells cs t fr))
    (hu : P.underlying ty = some d) (hd : (match d with | .struct _ | .array _ _ => true | _ => false) = true) (hi : (P.info? ty).map (·.size) = some cs.size) :
    (results fn tmps).run P w = .ok (.tuple #[.agg cs, tmps.getD u undef]) w := by
  rw [results_cell_tmp h, hp]
  simp [asAddr, run_loadVar_row w g t ty cs fr d hg hu hd hi, Result.andThen]
theorem gload {P Q G : Int} {w : World} {A : Nat} (h : HasG w A P Q G) : (loadVar 38 ⟨A, 0, none⟩).run Tryd.prog w = .ok (.agg (gcells P Q G)) w :=
  run_loadVar_row w A 38 38 (gcells P Q G) (0, 0) _ h Tryd.underlying38 rfl (ginf P Q G)
set_option maxHeartbeats 2000000 in
set_option maxRecDepth 100000 in
theorem make_no (q : Int) (w : World) (hT : Tab w) (h : vgB (2 * q + 1) q 4 = false) :
    Calls Tryd.prog 37 #[.int .i64 q] w fun e w' => e = .returned (.tuple #[grpV 0 0 0, .bool false]) ∧ Below w.heap.size w w' := by
  have HT := mkHid hT
  have HV := mkHid h
  clear hT h
  have B1 := mkHid ((Below.refl w.heap.size w).alloc (Nat.le_refl _) (.cells (gcells 0 0 0) 38))
  by_cases h1 : q < 5
  · go_enter Tryd.func37, Tryd.ntmps37
    go_wp2
    exact bodyPost_ret (v := .tuple #[.agg (gcells 0 0 0), .bool false]) (results_cell_tmp_row (p := 2) (u := 3) (by kernel_rfl) _ _ w.heap.size 38 (gcells 0 0 0) (0, 0) _ rfl (HasG.new w 0 0 0) Tryd.underlying38 rfl (ginf 0 0 0)) rfl ⟨rfl, B1.out⟩
  by_cases h2 : 1152921504606846976 ≤ q
  · go_enter Tryd.func37, Tryd.ntmps37
    go_wp2
    exact bodyPost_ret (v := .tuple #[.agg (gcells 0 0 0), .bool false]) (results_cell_tmp_row (p := 2) (u := 3) (by kernel_rfl) _ _ w.heap.size 38 (gcells 0 0 0) (0, 0) _ rfl (HasG.new w 0 0 0) Tryd.underlying38 rfl (ginf 0 0 0)) rfl ⟨rfl, B1.out⟩
  go_enter Tryd.func37, Tryd.ntmps37
  go_wp2_with (first | (refine wpList_store_abs rfl 38 (.tmp 4) (.tmp 16) rfl (w.heap.size + 1) (gcells (2 * q + 1) q 4) ?s1 ?s2 38 _ (heap_alloc2_new _ _ _) (ginf _ _ _) rfl (gone _ _ _) ?_; (case s1 => rfl); (case s2 => rfl); intro W2 s2 u2; have S2 : Hid (HasG W2 (w.heap.size + 1) (2 * q + 1) q 4) := mkHid s2; have R2 := mkHid ((HasG.new w 0 0 0).alloc (.cells (gcells 0 0 0) 38) |>.upd u2 (by omega)); have C2 := mkHid (u2.below (B1.out.alloc B1.out.size (.cells (gcells 0 0 0) 38)) (by omega)); have T2 := mkHid (HT.out.step C2.out); clear s2 u2) | (refine wpList_load_row rfl 38 (.tmp 4) rfl (w.heap.size + 1) ?x1 38 (gcells (2 * q + 1) q 4) (0, 0) _ S2.out Tryd.underlying38 rfl (ginf _ _ _) ?_; (case x1 => rfl)))
  refine (valid_group_any (2 * q + 1) q 4 _ T2.out).mono ?_
  rintro e w3 ⟨rfl, b3⟩
  rw [HV.out]
  have R3 := mkHid (R2.out.below b3)
  have S3 := mkHid (S2.out.below b3)
  have C3 := mkHid (C2.out.trans (b3.mono C2.out.size))
  clear R2 S2 C2 T2 b3
  go_wp2_with (refine wpList_store_abs rfl 38 (.tmp 2) (.tmp 20) rfl w.heap.size (gcells 0 0 0) ?t1 ?t2 38 _ R3.out (ginf _ _ _) rfl (gone _ _ _) ?_; (case t1 => rfl); (case t2 => rfl); intro W4 s4 u4; have S4 : Hid (HasG W4 w.heap.size 0 0 0) := mkHid s4; have C4 := mkHid (u4.below C3.out (by omega)); clear s4 u4 R3 S3 C3)
  exact bodyPost_ret (v := .tuple #[.agg (gcells 0 0 0), .bool false]) (results_cell_tmp_row (p := 2) (u := 3) (by kernel_rfl) _ _ w.heap.size 38 (gcells 0 0 0) (0, 0) _ rfl S4.out Tryd.underlying38 rfl (ginf 0 0 0)) rfl ⟨rfl, C4.out⟩
set_option maxHeartbeats 2000000 in
set_option maxRecDepth 100000 in
theorem make_yes (q : Int) (w : World) (hT : Tab w) (h : vgB (2 * q + 1) q 4 = true) :
    Calls Tryd.prog 37 #[.int .i64 q] w fun e w' => e = .returned (.tuple #[grpV (2 * q + 1) q 4, .bool true]) ∧ Below w.heap.size w w' := by
  have HT := mkHid hT
  have HV := mkHid h
  have B1 := mkHid ((Below.refl w.heap.size w).alloc (Nat.le_refl _) (.cells (gcells 0 0 0) 38))
  have h1 : ¬ q < 5 := by have := ((vgB_iff _ _ _).1 h).q5; omega
  have h2 : ¬ 1152921504606846976 ≤ q := by have := ((vgB_iff _ _ _).1 h).qm; omega
  clear hT h
  go_enter Tryd.func37, Tryd.ntmps37
  go_wp2_with (first | (refine wpList_store_abs rfl 38 (.tmp 4) (.tmp 16) rfl (w.heap.size + 1) (gcells (2 * q + 1) q 4) ?s1 ?s2 38 _ (heap_alloc2_new _ _ _) (ginf _ _ _) rfl (gone _ _ _) ?_; (case s1 => rfl); (case s2 => rfl); intro W2 s2 u2; have S2 : Hid (HasG W2 (w.heap.size + 1) (2 * q + 1) q 4) := mkHid s2; have R2 := mkHid ((HasG.new w 0 0 0).alloc (.cells (gcells 0 0 0) 38) |>.upd u2 (by omega)); have C2 := mkHid (u2.below (B1.out.alloc B1.out.size (.cells (gcells 0 0 0) 38)) (by omega)); have T2 := mkHid (HT.out.step C2.out); clear s2 u2) | (refine wpList_load_row rfl 38 (.tmp 4) rfl (w.heap.size + 1) ?x1 38 (gcells (2 * q + 1) q 4) (0, 0) _ S2.out Tryd.underlying38 rfl (ginf _ _ _) ?_; (case x1 => rfl)))
  refine (valid_group_any (2 * q + 1) q 4 _ T2.out).mono ?_
  rintro e w3 ⟨rfl, b3⟩
  rw [HV.out]
  have R3 := mkHid (R2.out.below b3)
  have S3 := mkHid (S2.out.below b3)
  have C3 := mkHid (C2.out.trans (b3.mono C2.out.size))
  clear R2 S2 C2 T2 b3
  go_wp2_with (first | (refine wpList_load_row rfl 38 (.tmp 4) rfl (w.heap.size + 1) ?x2 38 (gcells (2 * q + 1) q 4) (0, 0) _ S3.out Tryd.underlying38 rfl (ginf _ _ _) ?_; (case x2 => rfl)) | (refine wpList_store_abs rfl 38 (.tmp 2) (.tmp 19) rfl w.heap.size (gcells (2 * q + 1) q 4) ?t1 ?t2 38 _ R3.out (ginf _ _ _) rfl (gone _ _ _) ?_; (case t1 => rfl); (case t2 => rfl); intro W4 s4 u4; have S4 : Hid (HasG W4 w.heap.size (2 * q + 1) q 4) := mkHid s4; have C4 := mkHid (u4.below C3.out (by omega)); clear s4 u4 R3 S3 C3))
  exact bodyPost_ret (v := .tuple #[.agg (gcells (2 * q + 1) q 4), .bool true]) (results_cell_tmp_row (p := 2) (u := 3) (by kernel_rfl) _ _ w.heap.size 38 (gcells (2 * q + 1) q 4) (0, 0) _ rfl S4.out Tryd.underlying38 rfl (ginf _ _ _)) rfl ⟨rfl, C4.out⟩
end Go.Proofs.YtbllanmhbfnagaaDoor
