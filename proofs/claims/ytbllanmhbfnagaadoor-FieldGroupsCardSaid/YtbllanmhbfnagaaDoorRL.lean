/- The element that is derived from a name (walks). -/
import Derived.Test.YtbllanmhbfnagaaDoorRK
set_option linter.unusedVariables false
set_option linter.unusedSimpArgs false
namespace Go.Proofs.YtbllanmhbfnagaaDoor
open Go.RowKit Go.Sort
def baseI (P Q G : Int) (l : List Nat) : Int := if vgB P Q G then powS P (2 + numI (P - 3) (shaF l)) 2 else 0
theorem numI_bd (n : Int) (l : List Nat) : 0 ≤ numI n l ∧ numI n l < 2305843009213693952 := by
  unfold numI
  split
  · exact numL_bd n l
  · omega
set_option maxHeartbeats 2000000 in
set_option maxRecDepth 100000 in
theorem base_any (P Q G : Int) (s : ByteArray) (w : World) (hT : Tab w) (hs : s.size ≤ 1099511627776) :
    Calls Tryd.prog 40 #[grpV P Q G, .string s] w fun e w' => e = .returned (.int .i64 (baseI P Q G (bytesN s))) ∧ Below w.heap.size w w' := by
  have HT := mkHid hT
  have HS := mkHid hs
  clear hT hs
  have r0 : ∀ W : World, Tab W → Calls Tryd.prog 41 #[grpV P Q G] W fun e w' => e = .returned (.bool (vgB P Q G)) ∧ Below W.heap.size W w' := fun W h => valid_group_any P Q G W h
  unfold grpV gcells at r0 ⊢
  have R0 := mkHid r0
  clear r0
  have B1 := mkHid ((Below.refl w.heap.size w).alloc (Nat.le_refl _) (.cells (gcells P Q G) 38))
  have G1 := mkHid (HasG.new w P Q G)
  cases hq : vgB P Q G with
  | false =>
    have hv : Hid (baseI P Q G (bytesN s) = 0) := mkHid (by unfold baseI; rw [hq]; rfl)
    have HQ := mkHid hq
    clear hq
    go_enter Tryd.func40, Tryd.ntmps40
    go_wp2_with fail
    refine (R0.out _ (HT.out.step ((Below.refl _ w).alloc (Nat.le_refl _) _))).mono ?_
    rintro e w2 ⟨rfl, b2⟩
    rw [HQ.out]
    go_wp2
    go_ret
    exact ⟨by rw [hv.out]; rfl, B1.out.trans (b2.mono B1.out.size)⟩
  | true =>
    have hv : Hid (baseI P Q G (bytesN s) = powS P (2 + numI (P - 3) (shaF (bytesN s))) 2) := mkHid (by unfold baseI; rw [hq]; rfl)
    have qb := (vgB_iff P Q G).1 hq
    have p1 : 11 ≤ P := by have := qb.q5; have := qb.p; omega
    have p2 : P < 2305843009213693952 := by have := qb.qm; have := qb.p; omega
    have HQ := mkHid hq
    clear hq qb
    obtain ⟨nb1, nb2⟩ := numI_bd (P - 3) (shaF (bytesN s))
    have wr1 : IntKind.i64.wrap (P - 3) = P - 3 := IntWalk.i64_in _ (by omega)
    have wr2 : IntKind.i64.wrap (2 + numI (P - 3) (shaF (bytesN s))) = 2 + numI (P - 3) (shaF (bytesN s)) := IntWalk.i64_in _ (by omega)
    have c1 : ∀ W : World, Calls Tryd.prog 34 #[.string s, .int .i64 (P - 3)] W fun e w' => e = .returned (.int .i64 (numI (P - 3) (shaF (bytesN s)))) ∧ Below W.heap.size W w' := fun W => number_any s (P - 3) W HS.out
    generalize numI (P - 3) (shaF (bytesN s)) = x at *
    have c2 : ∀ W : World, Calls Tryd.prog 30 #[.int .i64 P, .int .i64 (2 + x), .int .i64 2] W fun e w' => e = .returned (.int .i64 (powS P (2 + x) 2)) ∧ Below W.heap.size W w' := fun W => pow_b P (2 + x) 2 W (by omega) (by omega)
    rw [← hv.out] at c2
    generalize baseI P Q G (bytesN s) = y at *
    have C1 := mkHid c1
    have C2 := mkHid c2
    clear c1 c2 hv
    go_enter Tryd.func40, Tryd.ntmps40
    go_wp2_with fail
    refine (R0.out _ (HT.out.step ((Below.refl _ w).alloc (Nat.le_refl _) _))).mono ?_
    rintro e w2 ⟨rfl, b2⟩
    rw [HQ.out]
    have B2 := mkHid (B1.out.trans (b2.mono B1.out.size))
    obtain ⟨g1, g2, g3⟩ := (G1.out.below b2).cells
    clear b2 B1 G1 g2 g3
    go_upto_region 3 with (fail)
    have m1 := cell_regrown g1
    have k1 := regr w2 (fun W _ => C1.out W)
    have k2 := regr w2 (fun W _ => C2.out W)
    clear g1
    refine wp_region_quiet_below (by kernel_rfl) (by kernel_rfl) ?_
    repeat (quiet_step (with_reducible (first | exact k1 _ _ | exact k2 _ _)))
    refine wpQuiet_nil ?_
    intro _ hw'
    obtain ⟨⟨dq, osq⟩, hw''⟩ := hw'
    subst hw''
    go_wp2
    go_ret
    exact ⟨rfl, B2.out.trans ((below_regrown w2 dq osq).mono B2.out.size)⟩
set_option maxHeartbeats 2000000 in
set_option maxRecDepth 100000 in
theorem rbase_any (P Q G : Int) (s : ByteArray) (w : World) (hs : s.size ≤ 1099511627776) :
    Calls Tryd.prog 52 #[grpV P Q G, .string s] w fun e w' => e = .returned (.int .i64 (baseI P Q G (bytesN s))) ∧ Below w.heap.size w w' := by
  have HS := mkHid hs
  clear hs
  have r0 : ∀ W : World, Calls Tryd.prog 47 #[grpV P Q G] W fun e w' => e = .returned (.bool (vgB P Q G)) ∧ Below W.heap.size W w' := fun W => rvalid_group_any P Q G W
  unfold grpV gcells at r0 ⊢
  have R0 := mkHid r0
  clear r0
  have B1 := mkHid ((Below.refl w.heap.size w).alloc (Nat.le_refl _) (.cells (gcells P Q G) 38))
  have G1 := mkHid (HasG.new w P Q G)
  cases hq : vgB P Q G with
  | false =>
    have hv : Hid (baseI P Q G (bytesN s) = 0) := mkHid (by unfold baseI; rw [hq]; rfl)
    have HQ := mkHid hq
    clear hq
    go_enter Tryd.func52, Tryd.ntmps52
    go_wp2_with fail
    refine (R0.out _).mono ?_
    rintro e w2 ⟨rfl, b2⟩
    rw [HQ.out]
    go_wp2
    go_ret
    exact ⟨by rw [hv.out]; rfl, B1.out.trans (b2.mono B1.out.size)⟩
  | true =>
    have qb := (vgB_iff P Q G).1 hq
    have p1 : 11 ≤ P := by have := qb.q5; have := qb.p; omega
    have p2 : P < 2305843009213693952 := by have := qb.qm; have := qb.p; omega
    have hv : Hid (baseI P Q G (bytesN s) = mulI P (2 + numI (P - 3) (shaF (bytesN s))) (2 + numI (P - 3) (shaF (bytesN s)))) := mkHid (by
      have hm : modB P = true := modB_iff.2 (by omega)
      unfold baseI; rw [hq, if_pos rfl, powS_nn hm (by omega), mulI_of hm]
      unfold powI
      rw [show ((2 : Int).toNat) = 2 from rfl, Int.pow_succ, Int.pow_succ, Int.pow_zero, Int.one_mul])
    have HQ := mkHid hq
    clear hq qb
    obtain ⟨nb1, nb2⟩ := numI_bd (P - 3) (shaF (bytesN s))
    have wr1 : IntKind.i64.wrap (P - 3) = P - 3 := IntWalk.i64_in _ (by omega)
    have wr2 : IntKind.i64.wrap (2 + numI (P - 3) (shaF (bytesN s))) = 2 + numI (P - 3) (shaF (bytesN s)) := IntWalk.i64_in _ (by omega)
    have c1 : ∀ W : World, Calls Tryd.prog 35 #[.string s, .int .i64 (P - 3)] W fun e w' => e = .returned (.int .i64 (numI (P - 3) (shaF (bytesN s)))) ∧ Below W.heap.size W w' := fun W => rnumber_any s (P - 3) W HS.out
    generalize numI (P - 3) (shaF (bytesN s)) = x at *
    have C1 := mkHid c1
    clear c1
    go_enter Tryd.func52, Tryd.ntmps52
    go_wp2_with fail
    refine (R0.out _).mono ?_
    rintro e w2 ⟨rfl, b2⟩
    rw [HQ.out]
    have B2 := mkHid (B1.out.trans (b2.mono B1.out.size))
    have G2 := mkHid (G1.out.below b2)
    obtain ⟨g1, g2, g3⟩ := G2.out.cells
    clear b2 B1 G1
    go_wp2_with fail
    refine (C1.out _).mono ?_
    rintro e w3 ⟨rfl, b3⟩
    have B3 := mkHid (B2.out.trans (b3.mono B2.out.size))
    clear g1 g2 g3
    obtain ⟨g1, g2, g3⟩ := (G2.out.below b3).cells
    clear b3 B2 G2
    go_wp2_with fail
    refine (rmul_bb P (2 + x) (2 + x) _).mono ?_
    rintro e w4 ⟨rfl, b4⟩
    rw [← hv.out]
    go_wp2
    go_ret
    exact ⟨rfl, B3.out.trans (b4.mono B3.out.size)⟩
end Go.Proofs.YtbllanmhbfnagaaDoor
