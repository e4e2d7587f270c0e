/- Groups of field (walks). -/
import Derived.Test.YtbllanmhbfnagaaDoorWI
import Derived.Test.YtbllanmhbfnagaaDoorWE
import Derived.Test.YtbllanmhbfnagaaDoorF7
set_option linter.unusedVariables false
set_option linter.unusedSimpArgs false
namespace Go.Proofs.YtbllanmhbfnagaaDoor
open Go.RowKit
theorem vg_no {P Q G : Int} (h : ¬ VG P Q G) : vgB P Q G = false := by
  cases hv : vgB P Q G with
  | false => rfl
  | true => exact absurd ((vgB_iff P Q G).1 hv) h
theorem vg_eq {P Q G : Int} (h1 : 5 ≤ Q) (h2 : Q < 1152921504606846976) (h3 : P = 2 * Q + 1) (h4 : 2 ≤ G) (h5 : G < P) : vgB P Q G = (primeB Q && primeB P && (powS P G Q == 1)) := by
  unfold vgB
  rw [decide_eq_true h1, decide_eq_true h2, decide_eq_true h3, decide_eq_true h4, decide_eq_true h5]
  rfl
/-- The cells of a group that was boxed. -/
structure GrpAt (w : World) (A : Nat) (P Q G : Int) : Prop where
  p : w.cell? ⟨A, 0, none⟩ = some (.int .i64 P)
  q : w.cell? ⟨A, 1, none⟩ = some (.int .i64 Q)
  g : w.cell? ⟨A, 2, none⟩ = some (.int .i64 G)
  lt : A < w.heap.size
theorem GrpAt.new (w : World) (t : TypeId) (P Q G : Int) : GrpAt (w.alloc (.cells #[.int .i64 P, .int .i64 Q, .int .i64 G] t)) w.heap.size P Q G := by
  have h := heap_alloc_new w (.cells #[.int .i64 P, .int .i64 Q, .int .i64 G] t)
  exact ⟨by simp only [World.cell?, h]; rfl, by simp only [World.cell?, h]; rfl, by simp only [World.cell?, h]; rfl, by simp⟩
theorem GrpAt.of_block {w w' : World} {A : Nat} {P Q G : Int} (h : GrpAt w A P Q G) (hb : w'.heap[A]? = w.heap[A]?) (hs : w.heap.size ≤ w'.heap.size) : GrpAt w' A P Q G :=
  ⟨(World.cell?_of_block (a := ⟨A, 0, none⟩) hb).trans h.p, (World.cell?_of_block (a := ⟨A, 1, none⟩) hb).trans h.q, (World.cell?_of_block (a := ⟨A, 2, none⟩) hb).trans h.g, Nat.lt_of_lt_of_le h.lt hs⟩
theorem GrpAt.below {w w' : World} {A : Nat} {P Q G : Int} (h : GrpAt w A P Q G) (hb : Below w.heap.size w w') : GrpAt w' A P Q G := h.of_block (hb.block A h.lt) hb.size
theorem GrpAt.drewN {w : World} {A : Nat} {P Q G : Int} (h : GrpAt w A P Q G) (m : Nat) : GrpAt (w.drewN m) A P Q G := h.of_block rfl (Nat.le_refl _)
set_option maxHeartbeats 2000000 in
set_option maxRecDepth 100000 in
theorem valid_group_any (P Q G : Int) (w : World) (hT : Tab w) :
    Calls Tryd.prog 41 #[.agg #[.int .i64 P, .int .i64 Q, .int .i64 G]] w fun e w' => e = .returned (.bool (vgB P Q G)) ∧ Below w.heap.size w w' := by
  have HT := mkHid hT
  have B1 := mkHid ((Below.refl w.heap.size w).alloc (Nat.le_refl _) (.cells #[.int .i64 P, .int .i64 Q, .int .i64 G] 38))
  have G1 := mkHid (GrpAt.new w 38 P Q G)
  clear hT
  by_cases h1 : Q < 5
  · have hv := mkHid (vg_no (P := P) (Q := Q) (G := G) (fun h => by have := h.q5; omega))
    go_enter Tryd.func41, Tryd.ntmps41
    go_wp2
    go_ret
    exact ⟨ret_bool hv.out.symm, B1.out⟩
  by_cases h2 : 1152921504606846976 ≤ Q
  · have hv := mkHid (vg_no (P := P) (Q := Q) (G := G) (fun h => by have := h.qm; omega))
    go_enter Tryd.func41, Tryd.ntmps41
    go_wp2
    go_ret
    exact ⟨ret_bool hv.out.symm, B1.out⟩
  by_cases h3 : P = 2 * Q + 1
  · subst h3
    by_cases h4 : G < 2
    · have hv := mkHid (vg_no (P := 2 * Q + 1) (Q := Q) (G := G) (fun h => by have := h.g2; omega))
      go_enter Tryd.func41, Tryd.ntmps41
      go_wp2
      go_ret
      exact ⟨ret_bool hv.out.symm, B1.out⟩
    by_cases h5 : 2 * Q + 1 ≤ G
    · have hv := mkHid (vg_no (P := 2 * Q + 1) (Q := Q) (G := G) (fun h => by have := h.gp; omega))
      go_enter Tryd.func41, Tryd.ntmps41
      go_wp2
      go_ret
      exact ⟨ret_bool hv.out.symm, B1.out⟩
    have HE := mkHid (vg_eq (P := 2 * Q + 1) (Q := Q) (G := G) (by omega) (by omega) rfl (by omega) (by omega))
    have c5 : (5 : Int) ≤ Q := by omega
    have c6 : Q < 1152921504606846976 := by omega
    cases hq : primeB Q with
    | false =>
      have HQ := mkHid hq
      clear hq
      go_enter Tryd.func41, Tryd.ntmps41
      go_wp2_with fail
      refine (prime_any Q _ (HT.out.step ((Below.refl _ w).alloc (Nat.le_refl _) _))).mono ?_
      rintro e w2 ⟨rfl, b2⟩
      rw [HQ.out]
      go_wp2
      go_ret
      exact ⟨ret_bool (by rw [HE.out, HQ.out]; rfl), B1.out.trans (b2.mono B1.out.size)⟩
    | true =>
      have HQ := mkHid hq
      clear hq
      cases hp : primeB (2 * Q + 1) with
      | false =>
        have HP := mkHid hp
        clear hp
        go_enter Tryd.func41, Tryd.ntmps41
        go_wp2_with fail
        refine (prime_any Q _ (HT.out.step ((Below.refl _ w).alloc (Nat.le_refl _) _))).mono ?_
        rintro e w2 ⟨rfl, b2⟩
        rw [HQ.out]
        have g2 := G1.out.below b2
        have B2 := mkHid (B1.out.trans (b2.mono B1.out.size))
        have T2 := mkHid ((HT.out.step ((Below.refl _ w).alloc (Nat.le_refl _) (.cells #[.int .i64 (2 * Q + 1), .int .i64 Q, .int .i64 G] 38))).step b2)
        obtain ⟨g2p, g2q, g2g, g2l⟩ := g2
        clear b2
        go_wp2_with fail
        refine (prime_any (2 * Q + 1) _ T2.out).mono ?_
        rintro e w3 ⟨rfl, b3⟩
        rw [HP.out]
        clear g2p g2q g2g
        go_wp2
        go_ret
        exact ⟨ret_bool (by rw [HE.out, HQ.out, HP.out]; rfl), B2.out.trans (b3.mono B2.out.size)⟩
      | true =>
        have HP := mkHid hp
        clear hp
        cases ho : (powS (2 * Q + 1) G Q == 1) with
        | false =>
          have HO := mkHid ho
          clear ho
          go_enter Tryd.func41, Tryd.ntmps41
          go_wp2_with fail
          refine (prime_any Q _ (HT.out.step ((Below.refl _ w).alloc (Nat.le_refl _) _))).mono ?_
          rintro e w2 ⟨rfl, b2⟩
          rw [HQ.out]
          have g2 := G1.out.below b2
          have G2 := mkHid g2
          have B2 := mkHid (B1.out.trans (b2.mono B1.out.size))
          have T2 := mkHid ((HT.out.step ((Below.refl _ w).alloc (Nat.le_refl _) (.cells #[.int .i64 (2 * Q + 1), .int .i64 Q, .int .i64 G] 38))).step b2)
          obtain ⟨g2p, g2q, g2g, g2l⟩ := g2
          clear b2
          go_wp2_with fail
          refine (prime_any (2 * Q + 1) _ T2.out).mono ?_
          rintro e w3 ⟨rfl, b3⟩
          rw [HP.out]
          clear g2p g2q g2g
          obtain ⟨g3p, g3q, g3g, g3l⟩ := G2.out.below b3
          have B3 := mkHid (B2.out.trans (b3.mono B2.out.size))
          clear b3
          go_wp2_with fail
          refine (pow_any (2 * Q + 1) G Q _ (by omega) (by omega)).mono ?_
          rintro e w4 ⟨rfl, m, rfl⟩
          have hoo := HO.out
          generalize powS (2 * Q + 1) G Q = x at *
          go_wp2
          go_ret
          exact ⟨ret_bool (by rw [HE.out, HQ.out, HP.out, HO.out]; rfl), below_drewN B3.out m⟩
        | true =>
          have HO := mkHid ho
          clear ho
          go_enter Tryd.func41, Tryd.ntmps41
          go_wp2_with fail
          refine (prime_any Q _ (HT.out.step ((Below.refl _ w).alloc (Nat.le_refl _) _))).mono ?_
          rintro e w2 ⟨rfl, b2⟩
          rw [HQ.out]
          have g2 := G1.out.below b2
          have G2 := mkHid g2
          have B2 := mkHid (B1.out.trans (b2.mono B1.out.size))
          have T2 := mkHid ((HT.out.step ((Below.refl _ w).alloc (Nat.le_refl _) (.cells #[.int .i64 (2 * Q + 1), .int .i64 Q, .int .i64 G] 38))).step b2)
          obtain ⟨g2p, g2q, g2g, g2l⟩ := g2
          clear b2
          go_wp2_with fail
          refine (prime_any (2 * Q + 1) _ T2.out).mono ?_
          rintro e w3 ⟨rfl, b3⟩
          rw [HP.out]
          clear g2p g2q g2g
          obtain ⟨g3p, g3q, g3g, g3l⟩ := G2.out.below b3
          have B3 := mkHid (B2.out.trans (b3.mono B2.out.size))
          clear b3
          go_wp2_with fail
          refine (pow_any (2 * Q + 1) G Q _ (by omega) (by omega)).mono ?_
          rintro e w4 ⟨rfl, m, rfl⟩
          have hoo := HO.out
          generalize powS (2 * Q + 1) G Q = x at *
          go_wp2
          go_ret
          exact ⟨ret_bool (by rw [HE.out, HQ.out, HP.out, HO.out]; rfl), below_drewN B3.out m⟩
  · have hv := mkHid (vg_no (P := P) (Q := Q) (G := G) (fun h => by have := h.p; omega))
    go_enter Tryd.func41, Tryd.ntmps41
    go_wp2
    go_ret
    exact ⟨ret_bool hv.out.symm, B1.out⟩
end Go.Proofs.YtbllanmhbfnagaaDoor
