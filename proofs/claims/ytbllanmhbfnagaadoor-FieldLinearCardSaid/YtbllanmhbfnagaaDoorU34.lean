/- At: the value of a polynomial (walk). -/
import Derived.RangeFuncBox
import Derived.Test.YtbllanmhbfnagaaDoorU33
set_option linter.unusedVariables false
set_option linter.unusedSimpArgs false
namespace Go.Proofs.YtbllanmhbfnagaaDoor
open Go.RowKit Go.Shelf Go.Sort
attribute [local go_sem] Oper.semAt_some
theorem mul_bb2 (n a b : Int) (w : World) : Calls Tryd.prog 28 #[.int .i64 n, .int .i64 a, .int .i64 b] w fun e w' => e = .returned (.int .i64 (mulI n a b)) ∧ RowKit.Below w.heap.size w w' := mul_b n a b w
theorem add_bb2 (n a b : Int) (w : World) : Calls Tryd.prog 24 #[.int .i64 n, .int .i64 a, .int .i64 b] w fun e w' => e = .returned (.int .i64 (addI n a b)) ∧ RowKit.Below w.heap.size w w' :=
  (add_any n a b w).mono fun _ _ h => ⟨h.1, h.2 ▸ Below.refl _ _⟩
/-- Between two rounds: the boxes of q, x and the value. -/
def AtI (q x : Int) (w : World) (pre : List (Nat × Int)) (W : World) : Prop :=
  W.cell? ⟨w.heap.size, 0, none⟩ = some (.int .i64 q) ∧ W.cell? ⟨w.heap.size + 1, 0, none⟩ = some (.int .i64 x) ∧ W.cell? ⟨w.heap.size + 1 + 1, 0, none⟩ = some (.int .i64 (atP q x pre)) ∧ W.frozen? ⟨w.heap.size + 1 + 1, 0, none⟩ = false ∧ RowKit.Below w.heap.size w W ∧ w.heap.size + 4 ≤ W.heap.size
theorem atI_own (q x : Int) (w : World) (B : Nat) (hB : w.heap.size ≤ B) : OwnFrom B (AtI q x w) := fun s W W' row ⟨h1, h2, h3, h4, h5, h6⟩ hg hr =>
  have hr' : ∀ r, row = some r → ∃ o : Obj, W.heap[r]? = some o ∧ o.isCells = false := fun r e => (hr r e).2
  ⟨cell_kept h1 hg hr', cell_kept h2 hg hr', cell_kept h3 hg hr', (frozen_kept h3 hg hr').trans h4, h5.grown hg h5.size (fun k e => Nat.le_trans hB (hr k e).1), Nat.le_trans h6 hg.size⟩
theorem keepsO_below {W W' : World} (h : RowKit.Below W.heap.size W W') : KeepsOthers W W' := ⟨h.size, fun k o hk _ => (h.block k (Array.getElem?_eq_some_iff.1 hk).1).trans hk⟩
theorem body_end (q x : Int) (w W : World) (pre : List (Nat × Int)) (p : Nat × Int) (v : Int) (i1 : W.cell? ⟨w.heap.size, 0, none⟩ = some (.int .i64 q)) (i2 : W.cell? ⟨w.heap.size + 1, 0, none⟩ = some (.int .i64 x)) {s0 : Int} (i3 : W.cell? ⟨w.heap.size + 1 + 1, 0, none⟩ = some (.int .i64 s0))
    (i4 : W.frozen? ⟨w.heap.size + 1 + 1, 0, none⟩ = false) (i5 : RowKit.Below w.heap.size w W) (i6 : w.heap.size + 4 ≤ W.heap.size) (hs : atP q x (pre ++ [p]) = v) (w4 : World) (hz : w4.heap.size = w.heap.size + 4) (d : Nat) (os : Array Obj) :
    KeepsFrom w4.heap.size W ((grow (redrawn W d) os).setCell ⟨w.heap.size + 1 + 1, 0, none⟩ (.int .i64 v)) ∧ KpB w.heap.size (w.heap.size + 1 + 1 + 1) W ((grow (redrawn W d) os).setCell ⟨w.heap.size + 1 + 1, 0, none⟩ (.int .i64 v)) ∧
      AtI q x w (pre ++ [p]) ((grow (redrawn W d) os).setCell ⟨w.heap.size + 1 + 1, 0, none⟩ (.int .i64 v)) := by
  have hbb := below_regrown W d os
  have hlt : w.heap.size + 1 + 1 < W.heap.size := World.block_lt_of_cell? W _ i3
  have c1 := cell_regrown (d := d) (os := os) i1
  have c2 := cell_regrown (d := d) (os := os) i2
  have c3 := cell_regrown (d := d) (os := os) i3
  have f3 : (grow (redrawn W d) os).frozen? ⟨w.heap.size + 1 + 1, 0, none⟩ = false := (World.frozen?_of_block (a := ⟨w.heap.size + 1 + 1, 0, none⟩) (hbb.block _ hlt)).trans i4
  generalize grow (redrawn W d) os = wd at *
  have hz6 : wd.heap.size ≥ W.heap.size := hbb.size
  refine ⟨((keepsO_below hbb).trans (KeepsOthers.setCell _ _ _)).from _, ⟨(hbb.mono i5.size).setCell (p := ⟨w.heap.size + 1 + 1, 0, none⟩) (by show w.heap.size ≤ w.heap.size + 1 + 1; omega) _, ?_⟩, ?_, ?_, ?_, ?_, ?_, ?_⟩
  · rw [heap_setCell_other _ _ _ _ (by show w.heap.size + 1 + 1 + 1 ≠ w.heap.size + 1 + 1; omega)]; exact hbb.block _ (by omega)
  · rw [World.cell?_setCell_other _ _ _ _ (by intro e; injection e with e1; omega)]; exact c1
  · rw [World.cell?_setCell_other _ _ _ _ (by intro e; injection e with e1; omega)]; exact c2
  · rw [hs]; exact World.cell?_setCell_same' _ _ _ (by rw [c3]; rfl)
  · rw [World.frozen?_setCell]; exact f3
  · exact (i5.trans (hbb.mono i5.size)).setCell (p := ⟨w.heap.size + 1 + 1, 0, none⟩) (by show w.heap.size ≤ w.heap.size + 1 + 1; omega) _
  · rw [World.size_setCell]; omega
set_option maxRecDepth 100000 in
set_option maxHeartbeats 8000000 in
theorem at_any (q x : Int) (ao : Option Addr) (len cap : Nat) (zs : List Int) (w : World) (hreach : len ≤ 1000000) (hI : ArgI w ao len zs) :
    Calls Tryd.prog 67 #[.int .i64 q, .slice ao len cap, .int .i64 x] w fun e W' => e = .returned (.int .i64 (atF q zs x)) ∧ RowKit.Below w.heap.size w W' := by
  have HI := mkHid hI
  have HL := mkHid hI.len
  clear hI
  refine (callsIn_wide (n := 5)).1 ?_
  have h1 : (1 : Nat) ≤ 5 := by omega
  have hro : Fence.wide.round = none := rfl
  refine callsIn_of_wp_marks Tryd.func67 rfl trivial ?_ hro
  simp only [Tryd.ntmps67, List.size_toArray, List.length_cons, List.length_nil, Nat.reduceAdd, Nat.reduceSub, Array.replicate_succ, Array.replicate_zero, List.push_toArray, List.append_toArray, List.nil_append, List.cons_append]
  gi_wp2_with fail
  refine ⟨trivial, ?_⟩
  refine (backward_in Fence.wide 4 trivial hro _ _ _ _).mono ?_
  rintro e w' ⟨rfl, rfl⟩
  have bQ := Boxed.new w 3 (.int .i64 q)
  have bX := Boxed.new (w.alloc (.cells #[.int .i64 q] 3)) 3 (.int .i64 x)
  have bO := Boxed.new ((w.alloc (.cells #[.int .i64 q] 3)).alloc (.cells #[.int .i64 x] 3)) 3 (.int .i64 0)
  have bS := Boxed.new (((w.alloc (.cells #[.int .i64 q] 3)).alloc (.cells #[.int .i64 x] 3)).alloc (.cells #[.int .i64 0] 3)) 42 (.slice ao len cap)
  rw [World.size_alloc] at bX
  rw [World.size_alloc, World.size_alloc] at bO
  rw [World.size_alloc, World.size_alloc, World.size_alloc] at bS
  have hB0 : RowKit.Below w.heap.size w ((((w.alloc (.cells #[.int .i64 q] 3)).alloc (.cells #[.int .i64 x] 3)).alloc (.cells #[.int .i64 0] 3)).alloc (.cells #[.slice ao len cap] 42)) := ((((Below.refl _ w).alloc (Nat.le_refl _) _).alloc (by simp) _).alloc (by simp; omega) _).alloc (by simp; omega) _
  have HB0 := mkHid hB0
  have hcq := (((bQ.alloc (.cells #[.int .i64 x] 3)).alloc (.cells #[.int .i64 0] 3)).alloc (.cells #[.slice ao len cap] 42)).cell
  have hcx := ((bX.alloc (.cells #[.int .i64 0] 3)).alloc (.cells #[.slice ao len cap] 42)).cell
  have hco := (bO.alloc (.cells #[.slice ao len cap] 42))
  have hcs := bS.cell
  have hsz : ((((w.alloc (.cells #[.int .i64 q] 3)).alloc (.cells #[.int .i64 x] 3)).alloc (.cells #[.int .i64 0] 3)).alloc (.cells #[.slice ao len cap] 42)).heap.size = w.heap.size + 4 := by simp
  clear bQ bX bO bS hB0
  gi_wp2_with fail
  generalize (((w.alloc (.cells #[.int .i64 q] 3)).alloc (.cells #[.int .i64 x] 3)).alloc (.cells #[.int .i64 0] 3)).alloc (.cells #[.slice ao len cap] 42) = w4 at *
  have HSZ := mkHid hsz
  refine wpIn_rangeFunc_ownG hro h1 (gf := 119) (lb := #[.pointer (some ⟨w.heap.size + 1 + 1 + 1, 0, none⟩)]) rfl trivial (enters_of Tryd.func119 (by kernel_rfl) rfl)
    (back_stops Fence.wide (5 - 1) trivial hro (by omega) (w.heap.size + 1 + 1 + 1) w.heap.size ao len cap zs hreach w4 (by omega) HB0.out.size hcs ?args) KpB.trans (KpB.put HB0.out.size (by omega)) (Below.refl _ _) (fun _ => rfl)
    (AtI q x w) (fun _ _ _ => False) ?own (fun _ _ _ _ _ hs _ _ => hs) ?init
    (fun p => { tmps := #[.int .i64 q, .slice ao len cap, .int .i64 x, .pointer (some ⟨w.heap.size, 0, none⟩), undef, .pointer (some ⟨w.heap.size + 1, 0, none⟩), .int .i64 0, .pointer (some ⟨w.heap.size + 1 + 1, 0, none⟩), undef, .int .i64 p.2, .slice ao len cap, .func (.func 119) #[] #[.pointer (some ⟨w.heap.size + 1 + 1 + 1, 0, none⟩)], .int .i64 (p.1 : Int), .int .i64 p.2, undef, undef, undef, undef, undef, undef, undef, undef], defers := [] }) ?assign ?body ?done ?stop
  case args =>
    intro h0
    obtain ⟨g, o, e, hg, hc⟩ := HI.out.get h0
    exact ⟨g, o, e, hg, fun j hj => (HB0.out.cell (p := ⟨g, o + j, none⟩) hg).trans (hc j hj)⟩
  case own => exact atI_own q x w _ HB0.out.size
  case init => exact ⟨hcq, hcx, hco.cell, hco.frozen, HB0.out, by rw [HSZ.out]; exact Nat.le_refl _⟩
  case assign =>
    intro l p W K hK
    unfold encP
    gi_wp2
    exact hK
  case body =>
    rintro l pre p W hI hN
    obtain ⟨i1, i2, i3, i4, i5, i6⟩ := hI
    have I4 := mkHid i4
    have I5 := mkHid i5
    have I6 := mkHid i6
    have I123 := mkHid (And.intro i1 (And.intro i2 i3))
    clear i4 i5 i6
    have HS := mkHid (atP_snoc q x pre p)
    obtain ⟨s0, hs0⟩ : ∃ s0, atP q x pre = s0 := ⟨_, rfl⟩
    rw [hs0] at i3 HS I123
    obtain ⟨c, hc⟩ : ∃ c, p.2 = c := ⟨_, rfl⟩
    rw [hc] at HS ⊢
    clear hc hs0
    have hmx : Tryd.prog.follows .mixedOrders = true := by kernel_rfl
    have kM0 : ∀ W' : World, Calls Tryd.prog 28 #[.int .i64 q, .int .i64 s0, .int .i64 x] W' fun e w' => e = .returned (.int .i64 (mulI q s0 x)) ∧ RowKit.Below W'.heap.size W' w' := fun W' => mul_bb2 q s0 x W'
    have kA0 : ∀ W' : World, Calls Tryd.prog 24 #[.int .i64 q, .int .i64 (mulI q s0 x), .int .i64 c] W' fun e w' => e = .returned (.int .i64 (addI q (mulI q s0 x) c)) ∧ RowKit.Below W'.heap.size W' w' := fun W' => add_bb2 q (mulI q s0 x) c W'
    obtain ⟨v, hv⟩ : ∃ v, addI q (mulI q s0 x) c = v := ⟨_, rfl⟩
    rw [hv] at HS kA0
    obtain ⟨u, hu⟩ : ∃ u, mulI q s0 x = u := ⟨_, rfl⟩
    rw [hu] at kM0 kA0
    have m1 := cell_regrown i1
    have m2 := cell_regrown i2
    have m3 := cell_regrown i3
    have kM := regr W (fun W' _ => kM0 W')
    have kA := regr W (fun W' _ => kA0 W')
    clear kM0 kA0 hv hu i1 i2 i3
    gi_wp2_with fail
    refine wpIn_region_qtb (fun _ W' => ∃ d os, W' = (grow (redrawn W d) os).setCell ⟨w.heap.size + 1 + 1, 0, none⟩ (.int .i64 v)) 7 hmx (by kernel_rfl) ?hR (by kernel_rfl) ?_
    case hR =>
      rintro a W' ⟨d, os, rfl⟩
      exact body_end q x w W pre p v I123.out.1 I123.out.2.1 I123.out.2.2 I4.out I5.out I6.out HS.out w4 HSZ.out d os
    simp only [List.take_succ_cons, List.take_zero, List.drop_succ_cons, List.drop_zero]
    repeat (go_big_quiet_step (with_reducible (first | exact kM _ _ | exact kA _ _)))
    refine wpQuiet_nil ?_
    intro _ hw'
    obtain ⟨⟨dq, osq⟩, hw''⟩ := hw'
    subst hw''
    have c3 := cell_regrown (d := dq) (os := osq) I123.out.2.2
    have f3 : (grow (redrawn W dq) osq).frozen? ⟨w.heap.size + 1 + 1, 0, none⟩ = false := (World.frozen?_of_block (a := ⟨w.heap.size + 1 + 1, 0, none⟩) ((below_regrown W dq osq).block _ (World.block_lt_of_cell? W _ I123.out.2.2))).trans I4.out
    clear m1 m2 m3 kM kA
    go_wp2
    exact ⟨rfl, _, _, rfl⟩
  case done =>
    rintro D ys W hD rfl hI hK
    obtain ⟨i1, i2, i3, i4, i5, i6⟩ := hI
    have I5 := mkHid i5
    have hfin := atP_all q x zs
    rw [HL.out, hfin] at i3
    clear i4 i5 hfin
    gi_wp2
    refine ⟨by simp, .inl ⟨_, _, rfl, run_takeDeferred hK, ?_⟩⟩
    exact ⟨_, results_tmp rfl _ _ _, rfl, I5.out.trans (belowK_b (w := w) (Nat.le_refl _) W D _ _ (by have := HB0.out.size; omega) hK rfl rfl)⟩
  case stop =>
    rintro D c pre W _ _ h _
    exact h.elim
end Go.Proofs.YtbllanmhbfnagaaDoor
