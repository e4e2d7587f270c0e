/- Groups of the reference: Times, Power, Over, Make, Base (walks). -/
import Derived.Test.YtbllanmhbfnagaaDoorRH
set_option linter.unusedVariables false
set_option linter.unusedSimpArgs false
namespace Go.Proofs.YtbllanmhbfnagaaDoor
open Go.RowKit Go.Sort
theorem rresidue_b (n a : Int) (w : World) (h1 : 1 ≤ n) (h2 : n < 2305843009213693952) :
    Calls Tryd.prog 79 #[.int .i64 n, .int .i64 a] w fun e w' => e = .returned (.int .i64 (a % n)) ∧ Below w.heap.size w w' :=
  (rresidue_any n a w h1 h2).mono fun _ _ ⟨a, b⟩ => ⟨a, by subst b; exact Below.refl _ _⟩
theorem rpow_k (n a b : Int) (w : World) (hm : modB n = true) (b0 : 0 ≤ b) (b1 : b ≤ 9223372036854775807) :
    Calls Tryd.prog 85 #[.int .i64 n, .int .i64 a, .int .i64 b] w fun e w' => e = .returned (.int .i64 (powI n a b.toNat)) ∧ Below w.heap.size w w' :=
  (rpower_any n a b w hm b0 b1).mono fun _ _ ⟨a, b⟩ => ⟨a, by subst b; exact Below.refl _ _⟩
theorem rpow_b (n a b : Int) (w : World) (hb0 : -9223372036854775808 ≤ b) (hb1 : b ≤ 9223372036854775807) :
    Calls Tryd.prog 31 #[.int .i64 n, .int .i64 a, .int .i64 b] w fun e w' => e = .returned (.int .i64 (powS n a b)) ∧ Below w.heap.size w w' :=
  (rpow_any n a b w hb0 hb1).mono fun _ _ ⟨a, b⟩ => ⟨a, by subst b; exact Below.refl _ _⟩
set_option maxHeartbeats 1000000 in
set_option maxRecDepth 100000 in
theorem rtimes_any (P Q G a b : Int) (w : World) :
    Calls Tryd.prog 50 #[grpV P Q G, .int .i64 a, .int .i64 b] w fun e w' => e = .returned (.int .i64 (gtI P Q a b)) ∧ Below w.heap.size w w' := by
  unfold grpV gcells
  have B1 := mkHid ((Below.refl w.heap.size w).alloc (Nat.le_refl _) (.cells (gcells P Q G) 38))
  cases hQ : modB Q with
  | false =>
    have hr : Hid (gtI P Q a b = 0) := mkHid (by unfold gtI; rw [hQ]; rfl)
    have V := mkHid hQ
    clear hQ
    go_enter Tryd.func50, Tryd.ntmps50
    go_wp2_with fail
    refine (rvalid_no Q _ V.out).mono ?_
    rintro e w' ⟨rfl, rfl⟩
    go_wp2
    go_ret
    exact ⟨by rw [hr.out]; rfl, B1.out⟩
  | true =>
    have hr : Hid (gtI P Q a b = mulI P a b) := mkHid (by unfold gtI; rw [hQ]; rfl)
    have V := mkHid hQ
    clear hQ
    go_enter Tryd.func50, Tryd.ntmps50
    go_wp2_with fail
    refine (rvalid_yes Q _ V.out).mono ?_
    rintro e w' ⟨rfl, rfl⟩
    go_wp2_with fail
    refine (rmul_any P a b _).mono ?_
    rintro e w' ⟨rfl, rfl⟩
    rw [← hr.out]
    go_wp2
    go_ret
    exact ⟨rfl, B1.out⟩
set_option maxHeartbeats 1000000 in
set_option maxRecDepth 100000 in
theorem rpower_g_any (P Q G x k : Int) (w : World) :
    Calls Tryd.prog 49 #[grpV P Q G, .int .i64 x, .int .i64 k] w fun e w' => e = .returned (.int .i64 (gpI P Q x k)) ∧ Below w.heap.size w w' := by
  unfold grpV gcells
  have B1 := mkHid ((Below.refl w.heap.size w).alloc (Nat.le_refl _) (.cells (gcells P Q G) 38))
  cases hP : modB P with
  | false =>
    have hr : Hid (gpI P Q x k = 0) := mkHid (by unfold gpI; rw [hP]; rfl)
    have V := mkHid hP
    clear hP
    go_enter Tryd.func49, Tryd.ntmps49
    go_wp2_with fail
    refine (rvalid_no P _ V.out).mono ?_
    rintro e w' ⟨rfl, rfl⟩
    go_wp2
    go_ret
    exact ⟨by rw [hr.out]; rfl, B1.out⟩
  | true =>
    cases hQ : modB Q with
    | false =>
      have hr : Hid (gpI P Q x k = 0) := mkHid (by unfold gpI; rw [hP, hQ]; rfl)
      have V := mkHid hP
      have U := mkHid hQ
      clear hP hQ
      go_enter Tryd.func49, Tryd.ntmps49
      go_wp2_with fail
      refine (rvalid_yes P _ V.out).mono ?_
      rintro e w' ⟨rfl, rfl⟩
      go_wp2_with fail
      refine (rvalid_no Q _ U.out).mono ?_
      rintro e w' ⟨rfl, rfl⟩
      go_wp2
      go_ret
      exact ⟨by rw [hr.out]; rfl, B1.out⟩
    | true =>
      have hr : Hid (gpI P Q x k = powI P x (k % Q).toNat) := mkHid (by unfold gpI; rw [hP, hQ]; rfl)
      have hm1 := mkHid (modB_iff.1 hP)
      have hm2 := mkHid (modB_iff.1 hQ)
      have V := mkHid hP
      have U := mkHid hQ
      clear hP hQ
      have G1 := mkHid (HasG.new w P Q G).cells
      go_enter Tryd.func49, Tryd.ntmps49
      go_wp2_with fail
      refine (rvalid_yes P _ V.out).mono ?_
      rintro e w' ⟨rfl, rfl⟩
      go_wp2_with fail
      refine (rvalid_yes Q _ U.out).mono ?_
      rintro e w' ⟨rfl, rfl⟩
      go_wp2_with fail
      have B2 := B1.out
      have G2 := G1.out
      clear B1 G1
      simp only [gcells] at B2 G2
      generalize w.alloc (.cells #[.int .i64 P, .int .i64 Q, .int .i64 G] 38) = W at *
      obtain ⟨g1, g2, g3⟩ := G2
      have HB := mkHid B2
      clear B2
      have k1 := cell_regrown g1
      have k2 := cell_regrown g2
      clear g1 g2 g3
      have r2 := regr W (fun w _ => rresidue_b Q k w hm2.out.1 hm2.out.2)
      have xb := emod_bd x P hm1.out.1
      have kb := emod_bd k Q hm2.out.1
      have hq2 := hm2.out.2
      have r3 := regr W (fun w _ => rpow_k P x (k % Q) w (modB_iff.2 hm1.out) kb.1 (by omega))
      have pb := powI_bd (n := P) hm1.out.1 x (k % Q).toNat
      have hp2 := hm1.out.2
      rw [← hr.out] at r3 pb
      have wrp : IntKind.i64.wrap (gpI P Q x k) = gpI P Q x k := by simp only [IntKind.wrap_i64]; omega
      refine wp_region_quiet_below (by kernel_rfl) (by kernel_rfl) ?_
      repeat (quiet_step (with_reducible (first | exact r2 _ _ | exact r3 _ _)))
      refine wpQuiet_nil ?_
      intro _ hw'
      obtain ⟨⟨dq, osq⟩, hw''⟩ := hw'
      subst hw''
      go_wp2
      go_ret
      exact ⟨rfl, HB.out.trans ((below_regrown W dq osq).mono HB.out.size)⟩
set_option maxHeartbeats 2000000 in
set_option maxRecDepth 100000 in
theorem rover_any (P Q G a b : Int) (w : World) :
    Calls Tryd.prog 51 #[grpV P Q G, .int .i64 a, .int .i64 b] w fun e w' => e = .returned (.int .i64 (gtI P Q a (powS P b (-1)))) ∧ Below w.heap.size w w' := by
  unfold grpV gcells
  have B2 := mkHid ((Below.refl w.heap.size w).alloc (Nat.le_refl _) (.cells (gcells P Q G) 38))
  have G2 := mkHid (HasG.new w P Q G).cells
  cases hQ : modB Q with
  | false =>
    have hr : Hid (gtI P Q a (powS P b (-1)) = 0) := mkHid (by unfold gtI; rw [hQ]; rfl)
    have V := mkHid hQ
    clear hQ
    go_enter Tryd.func51, Tryd.ntmps51
    go_wp2_with fail
    refine (rvalid_no Q _ V.out).mono ?_
    rintro e w' ⟨rfl, rfl⟩
    go_wp2
    go_ret
    exact ⟨by rw [hr.out]; rfl, B2.out⟩
  | true =>
    have hr : Hid (gtI P Q a (powS P b (-1)) = mulI P a (powS P b (-1))) := mkHid (by unfold gtI; rw [hQ]; rfl)
    have V := mkHid hQ
    clear hQ
    have rp : ∀ W : World, Calls Tryd.prog 31 #[.int .i64 P, .int .i64 b, .int .i64 (-1)] W fun e w' => e = .returned (.int .i64 (powS P b (-1))) ∧ Below W.heap.size W w' := fun W => rpow_b P b (-1) W (by omega) (by omega)
    have r0 : ∀ W : World, Calls Tryd.prog 29 #[.int .i64 P, .int .i64 a, .int .i64 (powS P b (-1))] W fun e w' => e = .returned (.int .i64 (mulI P a (powS P b (-1)))) ∧ Below W.heap.size W w' := fun W => rmul_bb P a (powS P b (-1)) W
    have RR := hr
    rw [hr.out]
    clear hr RR
    generalize mulI P a (powS P b (-1)) = y at *
    generalize powS P b (-1) = x at *
    have RP := mkHid rp
    have R0 := mkHid r0
    clear rp r0
    go_enter Tryd.func51, Tryd.ntmps51
    go_wp2_with fail
    refine (rvalid_yes Q _ V.out).mono ?_
    rintro e w' ⟨rfl, rfl⟩
    go_upto_region 3 with (fail)
    replace B2 := B2.out
    replace G2 := G2.out
    simp only [gcells] at B2 G2
    generalize w.alloc (.cells #[.int .i64 P, .int .i64 Q, .int .i64 G] 38) = W at *
    obtain ⟨g1, g2, g3⟩ := G2
    have HB := mkHid B2
    clear B2
    have k1 := cell_regrown g1
    clear g1 g2 g3
    have r1 := regr W (fun w _ => RP.out w)
    have r2 := regr W (fun w _ => R0.out w)
    refine wp_region_quiet_below (by kernel_rfl) (by kernel_rfl) ?_
    repeat (quiet_step (with_reducible (first | exact r1 _ _ | exact r2 _ _)))
    refine wpQuiet_nil ?_
    intro _ hw'
    obtain ⟨⟨dq, osq⟩, hw''⟩ := hw'
    subst hw''
    go_wp2
    go_ret
    exact ⟨rfl, HB.out.trans ((below_regrown W dq osq).mono HB.out.size)⟩
end Go.Proofs.YtbllanmhbfnagaaDoor
