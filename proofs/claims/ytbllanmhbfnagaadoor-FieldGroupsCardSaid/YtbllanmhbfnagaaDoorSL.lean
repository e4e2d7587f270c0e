/- Products in a group (walk). -/
import Derived.Test.YtbllanmhbfnagaaDoorSI
set_option linter.unusedVariables false
set_option linter.unusedSimpArgs false
namespace Go.Proofs.YtbllanmhbfnagaaDoor
open Go.RowKit Go.Sort
/-- The product of the first j powers. -/
def prodL (P Q : Int) (bs es : List Int) : Nat → Int
  | 0 => 1 % P
  | j + 1 => mulI P (prodL P Q bs es j) (gpI P Q (bs.getD j 0) (es.getD j 0))
theorem prodL_bd (P Q : Int) (bs es : List Int) (h : 1 ≤ P) (h2 : P < 2305843009213693952) (j : Nat) : 0 ≤ prodL P Q bs es j ∧ prodL P Q bs es j < 2305843009213693952 := by
  cases j with
  | zero => have := emod_bd 1 P h; exact ⟨this.1, by have := this.2; unfold prodL; omega⟩
  | succ j => exact mulI_bd _ _ _
set_option maxHeartbeats 4000000 in
set_option maxRecDepth 100000 in
theorem gprod_any (P Q G : Int) (g1 o1 c1 g2 o2 c2 n : Nat) (bs es : List Int) (w : World) (hP : modB P = true) (hQ : modB Q = true) (hb : bs.length = n) (he : es.length = n) (hn : n ≤ 1000000)
    (h1 : ∀ j, j < n → w.cell? ⟨g1, o1 + j, none⟩ = some (.int .i64 (bs.getD j 0))) (h2 : ∀ j, j < n → w.cell? ⟨g2, o2 + j, none⟩ = some (.int .i64 (es.getD j 0))) (l1 : g1 < w.heap.size) (l2 : g2 < w.heap.size) :
    Calls Tryd.prog 44 #[grpV P Q G, .slice (some ⟨g1, o1, none⟩) n c1, .slice (some ⟨g2, o2, none⟩) n c2] w fun e w' => e = .returned (.tuple #[.int .i64 (prodL P Q bs es n), .bool true]) ∧ Below w.heap.size w w' := by
  have rp : ∀ (x k : Int) (W : World), Calls Tryd.prog 39 #[grpV P Q G, .int .i64 x, .int .i64 k] W fun e w' => e = .returned (.int .i64 (gpI P Q x k)) ∧ Below W.heap.size W w' := fun x k W => power_g_any P Q G x k W
  unfold grpV gcells at rp ⊢
  have RP := mkHid rp
  have V := mkHid hP
  have U := mkHid hQ
  have hp := mkHid (modB_iff.1 hP)
  have H1 := mkHid h1
  have H2 := mkHid h2
  clear rp hP hQ h1 h2 hb he
  obtain ⟨p1, p2⟩ := hp.out
  obtain ⟨o, ho⟩ : ∃ y, (1 : Int) % P = y := ⟨_, rfl⟩
  have ho2 : (1 : Int).tmod P = o := by rw [Int.tmod_eq_emod_of_nonneg (by omega)]; exact ho
  have hp0 : ¬ P = 0 := by omega
  have HO : Hid (prodL P Q bs es 0 = o) := mkHid ho
  have B0 := mkHid ((Below.refl w.heap.size w).alloc (Nat.le_refl _) (.cells (gcells P Q G) 38))
  have G0 := mkHid (HasG.new w P Q G)
  go_enter Tryd.func44, Tryd.ntmps44
  go_wp2_with fail
  refine (valid_yes P _ V.out).mono ?_
  rintro e w' ⟨rfl, rfl⟩
  go_wp2_with fail
  refine (valid_yes Q _ U.out).mono ?_
  rintro e w' ⟨rfl, rfl⟩
  go_wp2_with fail
  simp only [gcells] at B0
  have G1 : Hid (HasG (w.alloc (.cells #[.int .i64 P, .int .i64 Q, .int .i64 G] 38)) w.heap.size P Q G) := G0
  clear G0
  have L1 : g1 < (w.alloc (.cells #[.int .i64 P, .int .i64 Q, .int .i64 G] 38)).heap.size := Nat.lt_of_lt_of_le l1 B0.out.size
  generalize w.alloc (.cells #[.int .i64 P, .int .i64 Q, .int .i64 G] 38) = W1 at *
  go_loopw [8, 33] (fun c d wr => ∃ (j : Nat), c = .int .i64 (prodL P Q bs es j) ∧ d = .int .i64 j ∧ j ≤ n ∧ Hid (HasG wr w.heap.size P Q G) ∧ Hid (Below w.heap.size w wr)) (fun _ d _ => (n - intOf d).toNat)
  case atStart => exact ⟨0, by rw [HO.out], rfl, by omega, G1, B0⟩
  case round =>
    clear G1 B0 L1
    obtain ⟨j, rfl, rfl, hj, hg, hw⟩ := hrel
    by_cases hlt : j < n
    · have hst : Hid (prodL P Q bs es (j + 1) = mulI P (prodL P Q bs es j) (gpI P Q (bs.getD j 0) (es.getD j 0))) := mkHid rfl
      have k1 := (hw.out.cell (p := ⟨g1, o1 + j, none⟩) l1).trans (H1.out j hlt)
      have k2 := (hw.out.cell (p := ⟨g2, o2 + j, none⟩) l2).trans (H2.out j hlt)
      have pb := prodL_bd P Q bs es p1 p2 j
      generalize bs.getD j 0 = x at *
      generalize es.getD j 0 = y at *
      generalize prodL P Q bs es j = s at *
      have jj : (j : Int) < n := by omega
      have cP : ∀ W : World, Calls Tryd.prog 39 #[.agg #[.int .i64 P, .int .i64 Q, .int .i64 G], .int .i64 x, .int .i64 y] W fun e w' => e = .returned (.int .i64 (gpI P Q x y)) ∧ Below W.heap.size W w' := fun W => RP.out x y W
      have cM : ∀ W : World, Calls Tryd.prog 28 #[.int .i64 P, .int .i64 s, .int .i64 (gpI P Q x y)] W fun e w' => e = .returned (.int .i64 (mulI P s (gpI P Q x y))) ∧ Below W.heap.size W w' := fun W => mul_b P s (gpI P Q x y) W
      rw [← hst.out] at cM
      generalize gpI P Q x y = z at *
      have HS2 : Hid (prodL P Q bs es (j + 1) = prodL P Q bs es (j + 1)) := mkHid rfl
      obtain ⟨s2, hs2⟩ : ∃ y, prodL P Q bs es (j + 1) = y := ⟨_, rfl⟩
      rw [hs2] at cM
      have HS3 := mkHid hs2
      clear hs2 HS2 hst
      go_upto_region 7 with (fail)
      obtain ⟨q0, q1, q2⟩ := hg.out.cells
      have m0 := cell_regrown q0
      have m1 := cell_regrown q1
      have m2 := cell_regrown q2
      have m3 := cell_regrown k2
      have kP := regr wr (fun w _ => cP w)
      have kM := regr wr (fun w _ => cM w)
      clear q0 q1 q2 k1 k2 cP cM
      refine wp_region_quiet_below (by kernel_rfl) (by kernel_rfl) ?_
      repeat (quiet_step (with_reducible (first | exact kP _ _ | exact kM _ _)))
      refine wpQuiet_nil ?_
      intro _ hw'
      obtain ⟨⟨dq, osq⟩, hw''⟩ := hw'
      subst hw''
      clear m0 m1 m2 m3 kP kM
      have hbb := below_regrown wr dq osq
      go_wp2
      go_roundw
      case rel => exact ⟨j + 1, by rw [HS3.out], by go_num, by omega, mkHid (hg.out.below hbb), mkHid (hw.out.trans (hbb.mono hw.out.size))⟩
      case measure => simp only [intOf]; omega
    · obtain rfl : j = n := by omega
      go_wp2
      go_ret2
      exact ⟨rfl, hw.out⟩
end Go.Proofs.YtbllanmhbfnagaaDoor
