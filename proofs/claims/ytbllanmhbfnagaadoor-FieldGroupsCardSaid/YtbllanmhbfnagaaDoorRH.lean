/- Groups of the reference: ValidGroup, Member, Element (walks). -/
import Derived.Test.YtbllanmhbfnagaaDoorRG
import Derived.Test.YtbllanmhbfnagaaDoorWJ
import Derived.Test.YtbllanmhbfnagaaDoorF5
set_option linter.unusedVariables false
set_option linter.unusedSimpArgs false
namespace Go.Proofs.YtbllanmhbfnagaaDoor
open Go.RowKit Go.Sort
theorem rpower_s (n a b : Int) (w : World) (hm : modB n = true) (b0 : 0 ≤ b) (b1 : b ≤ 9223372036854775807) :
    Calls Tryd.prog 85 #[.int .i64 n, .int .i64 a, .int .i64 b] w fun e w' => e = .returned (.int .i64 (powS n a b)) ∧ Below w.heap.size w w' := by
  rw [powS_nn hm b0]
  exact (rpower_any n a b w hm b0 b1).mono fun _ _ ⟨h1, h2⟩ => ⟨h1, h2 ▸ Below.refl _ _⟩
set_option maxHeartbeats 2000000 in
set_option maxRecDepth 100000 in
theorem rvalid_group_any (P Q G : Int) (w : World) :
    Calls Tryd.prog 47 #[.agg #[.int .i64 P, .int .i64 Q, .int .i64 G]] w fun e w' => e = .returned (.bool (vgB P Q G)) ∧ Below w.heap.size w w' := by
  have B1 := mkHid ((Below.refl w.heap.size w).alloc (Nat.le_refl _) (.cells #[.int .i64 P, .int .i64 Q, .int .i64 G] 38))
  have G1 := mkHid (GrpAt.new w 38 P Q G)
  by_cases h1 : Q < 5
  · have hv := mkHid (vg_no (P := P) (Q := Q) (G := G) (fun h => by have := h.q5; omega))
    go_enter Tryd.func47, Tryd.ntmps47
    go_wp2
    go_ret
    exact ⟨ret_bool hv.out.symm, B1.out⟩
  by_cases h2 : 1152921504606846976 ≤ Q
  · have hv := mkHid (vg_no (P := P) (Q := Q) (G := G) (fun h => by have := h.qm; omega))
    go_enter Tryd.func47, Tryd.ntmps47
    go_wp2
    go_ret
    exact ⟨ret_bool hv.out.symm, B1.out⟩
  by_cases h3 : P = 2 * Q + 1
  · subst h3
    by_cases h4 : G < 2
    · have hv := mkHid (vg_no (P := 2 * Q + 1) (Q := Q) (G := G) (fun h => by have := h.g2; omega))
      go_enter Tryd.func47, Tryd.ntmps47
      go_wp2
      go_ret
      exact ⟨ret_bool hv.out.symm, B1.out⟩
    by_cases h5 : 2 * Q + 1 ≤ G
    · have hv := mkHid (vg_no (P := 2 * Q + 1) (Q := Q) (G := G) (fun h => by have := h.gp; omega))
      go_enter Tryd.func47, Tryd.ntmps47
      go_wp2
      go_ret
      exact ⟨ret_bool hv.out.symm, B1.out⟩
    have HE := mkHid (vg_eq (P := 2 * Q + 1) (Q := Q) (G := G) (by omega) (by omega) rfl (by omega) (by omega))
    have c5 : (5 : Int) ≤ Q := by omega
    have c6 : Q < 1152921504606846976 := by omega
    cases hq : primeB Q with
    | false =>
      have HQ := mkHid hq
      clear hq
      go_enter Tryd.func47, Tryd.ntmps47
      go_wp2_with fail
      refine (rprime_any Q _).mono ?_
      rintro e w2 ⟨rfl, b2⟩
      rw [HQ.out]
      go_wp2
      go_ret
      exact ⟨ret_bool (by rw [HE.out, HQ.out]; rfl), B1.out.trans (b2.mono B1.out.size)⟩
    | true =>
      have HQ := mkHid hq
      clear hq
      cases hp : primeB (2 * Q + 1) with
      | false =>
        have HP := mkHid hp
        clear hp
        go_enter Tryd.func47, Tryd.ntmps47
        go_wp2_with fail
        refine (rprime_any Q _).mono ?_
        rintro e w2 ⟨rfl, b2⟩
        rw [HQ.out]
        have g2 := G1.out.below b2
        have B2 := mkHid (B1.out.trans (b2.mono B1.out.size))
        obtain ⟨g2p, g2q, g2g, g2l⟩ := g2
        clear b2
        go_wp2_with fail
        refine (rprime_any (2 * Q + 1) _).mono ?_
        rintro e w3 ⟨rfl, b3⟩
        rw [HP.out]
        clear g2p g2q g2g
        go_wp2
        go_ret
        exact ⟨ret_bool (by rw [HE.out, HQ.out, HP.out]; rfl), B2.out.trans (b3.mono B2.out.size)⟩
      | true =>
        have HP := mkHid hp
        clear hp
        cases ho : (powS (2 * Q + 1) G Q == 1) with
        | false =>
          have HO := mkHid ho
          clear ho
          go_enter Tryd.func47, Tryd.ntmps47
          go_wp2_with fail
          refine (rprime_any Q _).mono ?_
          rintro e w2 ⟨rfl, b2⟩
          rw [HQ.out]
          have g2 := G1.out.below b2
          have G2 := mkHid g2
          have B2 := mkHid (B1.out.trans (b2.mono B1.out.size))
          obtain ⟨g2p, g2q, g2g, g2l⟩ := g2
          clear b2
          go_wp2_with fail
          refine (rprime_any (2 * Q + 1) _).mono ?_
          rintro e w3 ⟨rfl, b3⟩
          rw [HP.out]
          clear g2p g2q g2g
          obtain ⟨g3p, g3q, g3g, g3l⟩ := G2.out.below b3
          have B3 := mkHid (B2.out.trans (b3.mono B2.out.size))
          clear b3
          go_wp2_with fail
          refine (rpower_s (2 * Q + 1) G Q _ (modB_iff.2 (by omega)) (by omega) (by omega)).mono ?_
          rintro e w4 ⟨rfl, b4⟩
          have hoo := HO.out
          generalize powS (2 * Q + 1) G Q = x at *
          go_wp2
          go_ret
          exact ⟨ret_bool (by rw [HE.out, HQ.out, HP.out, HO.out]; rfl), B3.out.trans (b4.mono B3.out.size)⟩
        | true =>
          have HO := mkHid ho
          clear ho
          go_enter Tryd.func47, Tryd.ntmps47
          go_wp2_with fail
          refine (rprime_any Q _).mono ?_
          rintro e w2 ⟨rfl, b2⟩
          rw [HQ.out]
          have g2 := G1.out.below b2
          have G2 := mkHid g2
          have B2 := mkHid (B1.out.trans (b2.mono B1.out.size))
          obtain ⟨g2p, g2q, g2g, g2l⟩ := g2
          clear b2
          go_wp2_with fail
          refine (rprime_any (2 * Q + 1) _).mono ?_
          rintro e w3 ⟨rfl, b3⟩
          rw [HP.out]
          clear g2p g2q g2g
          obtain ⟨g3p, g3q, g3g, g3l⟩ := G2.out.below b3
          have B3 := mkHid (B2.out.trans (b3.mono B2.out.size))
          clear b3
          go_wp2_with fail
          refine (rpower_s (2 * Q + 1) G Q _ (modB_iff.2 (by omega)) (by omega) (by omega)).mono ?_
          rintro e w4 ⟨rfl, b4⟩
          have hoo := HO.out
          generalize powS (2 * Q + 1) G Q = x at *
          go_wp2
          go_ret
          exact ⟨ret_bool (by rw [HE.out, HQ.out, HP.out, HO.out]; rfl), B3.out.trans (b4.mono B3.out.size)⟩
  · have hv := mkHid (vg_no (P := P) (Q := Q) (G := G) (fun h => by have := h.p; omega))
    go_enter Tryd.func47, Tryd.ntmps47
    go_wp2
    go_ret
    exact ⟨ret_bool hv.out.symm, B1.out⟩
set_option maxHeartbeats 2000000 in
set_option maxRecDepth 100000 in
theorem rmember_any (P Q G x : Int) (w : World) (h1 : 1 ≤ x) (h2 : x < P) (hm : modB P = true) (q0 : 0 ≤ Q) (q1 : Q ≤ 9223372036854775807) :
    Calls Tryd.prog 91 #[grpV P Q G, .int .i64 x] w fun e w' => e = .returned (.bool (powS P x Q == 1)) ∧ Below w.heap.size w w' := by
  unfold grpV gcells
  have B1 := mkHid ((Below.refl w.heap.size w).alloc (Nat.le_refl _) (.cells (gcells P Q G) 38))
  have M := mkHid hm
  have c1 : ¬ x < 1 := by omega
  clear hm
  go_enter Tryd.func91, Tryd.ntmps91
  go_wp2_with fail
  refine (rpower_s P x Q _ M.out q0 q1).mono ?_
  rintro e w2 ⟨rfl, b2⟩
  have B2 := mkHid (B1.out.trans (b2.mono B1.out.size))
  clear b2
  cases ho : (powS P x Q == 1) with
  | false =>
    have HO := mkHid ho
    go_wp2
    go_ret
    exact ⟨ret_bool HO.out.symm, B2.out⟩
  | true =>
    have HO := mkHid ho
    go_wp2
    go_ret
    exact ⟨ret_bool HO.out.symm, B2.out⟩
set_option maxHeartbeats 2000000 in
set_option maxRecDepth 100000 in
theorem relement_any (P Q G x : Int) (w : World) :
    Calls Tryd.prog 48 #[grpV P Q G, .int .i64 x] w fun e w' => e = .returned (.bool (elB P Q G x)) ∧ Below w.heap.size w w' := by
  have r0 : ∀ W : World, Calls Tryd.prog 47 #[grpV P Q G] W fun e w' => e = .returned (.bool (vgB P Q G)) ∧ Below W.heap.size W w' := fun W => rvalid_group_any P Q G W
  have r1 := fun (W : World) h1 h2 hm q0 q1 => rmember_any P Q G x W h1 h2 hm q0 q1
  unfold grpV gcells at r0 r1 ⊢
  have R0 := mkHid r0
  have R1 := mkHid r1
  clear r0 r1
  have B1 := mkHid ((Below.refl w.heap.size w).alloc (Nat.le_refl _) (.cells (gcells P Q G) 38))
  have G1 := mkHid (HasG.new w P Q G)
  by_cases h1 : x < 1
  · have hv : Hid (elB P Q G x = false) := mkHid (by unfold elB; rw [decide_eq_false (by omega)]; rfl)
    go_enter Tryd.func48, Tryd.ntmps48
    go_wp2
    go_ret
    exact ⟨ret_bool hv.out.symm, B1.out⟩
  by_cases h2 : P ≤ x
  · have hv : Hid (elB P Q G x = false) := mkHid (by unfold elB; rw [decide_eq_false (p := x < P) (by omega)]; simp)
    go_enter Tryd.func48, Tryd.ntmps48
    go_wp2
    go_ret
    exact ⟨ret_bool hv.out.symm, B1.out⟩
  have HE := mkHid (el_eq (Q := Q) (G := G) (show 1 ≤ x by omega) (show x < P by omega))
  cases hq : vgB P Q G with
  | false =>
    have HQ := mkHid hq
    clear hq
    go_enter Tryd.func48, Tryd.ntmps48
    go_wp2_with fail
    refine (R0.out _).mono ?_
    rintro e w2 ⟨rfl, b2⟩
    rw [HQ.out]
    go_wp2
    go_ret
    exact ⟨ret_bool (by rw [HE.out, HQ.out]; rfl), B1.out.trans (b2.mono B1.out.size)⟩
  | true =>
    have qb := mkHid ((vgB_iff P Q G).1 hq)
    have HQ := mkHid hq
    clear hq
    go_enter Tryd.func48, Tryd.ntmps48
    go_wp2_with fail
    refine (R0.out _).mono ?_
    rintro e w2 ⟨rfl, b2⟩
    rw [HQ.out]
    have B2 := mkHid (B1.out.trans (b2.mono B1.out.size))
    obtain ⟨g1, g2, g3⟩ := (G1.out.below b2).cells
    clear b2
    go_wp2_with fail
    refine (R1.out _ (by omega) (by omega) (modB_iff.2 (by have := qb.out.q5; have := qb.out.qm; have := qb.out.p; omega)) (by have := qb.out.q5; omega) (by have := qb.out.qm; omega)).mono ?_
    rintro e w4 ⟨rfl, b4⟩
    have B4 := mkHid (B2.out.trans (b4.mono B2.out.size))
    clear b4 g1 g2 g3
    cases ho : (powS P x Q == 1) with
    | false =>
      have HO := mkHid ho
      clear ho
      go_wp2
      go_ret
      exact ⟨ret_bool (by rw [HE.out, HQ.out, HO.out]; rfl), B4.out⟩
    | true =>
      have HO := mkHid ho
      clear ho
      go_wp2
      go_ret
      exact ⟨ret_bool (by rw [HE.out, HQ.out, HO.out]; rfl), B4.out⟩
end Go.Proofs.YtbllanmhbfnagaaDoor
