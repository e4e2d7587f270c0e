/- FieldRing: what the property's function computes (walk; printed by wip/tools/genlb.py). -/
import Derived.Test.YtbllanmhbfnagaaDoorU16
import Derived.Test.YtbllanmhbfnagaaDoorU5
set_option linter.unusedVariables false
set_option linter.unusedSimpArgs false
namespace Go.Proofs.YtbllanmhbfnagaaDoor
open Go.RowKit Go.Sort
theorem add_b (n a b : Int) (w : World) :
    Calls Tryd.prog 24 #[.int .i64 n, .int .i64 a, .int .i64 b] w fun e w' => e = .returned (.int .i64 (addI n a b)) ∧ Below w.heap.size w w' :=
  (add_any n a b w).mono fun _ _ ⟨a, b⟩ => ⟨a, by subst b; exact Below.refl _ _⟩
theorem sub_b (n a b : Int) (w : World) :
    Calls Tryd.prog 26 #[.int .i64 n, .int .i64 a, .int .i64 b] w fun e w' => e = .returned (.int .i64 (subI n a b)) ∧ Below w.heap.size w w' :=
  (sub_any n a b w).mono fun _ _ ⟨a, b⟩ => ⟨a, by subst b; exact Below.refl _ _⟩
set_option maxHeartbeats 8000000 in
set_option maxRecDepth 100000 in
theorem ring_walk (n a b c : Int) (w : World) (hT : Tab w) (b0 : -9223372036854775808 ≤ b) (b1 : b ≤ 9223372036854775807) :
    Calls Tryd.prog 5 #[.int .i64 n, .int .i64 a, .int .i64 b, .int .i64 c] w fun e w' => e = .returned (.bool true) ∧ Below w.heap.size w w' := by
  have HT := mkHid hT
  clear hT
  cases hm : modB n with
  | false =>
    obtain ⟨e1, e2, e3, e4, e5⟩ := ring_none n a b hm
    have E1 := mkHid e1; have E2 := mkHid e2; have E3 := mkHid e3; have E4 := mkHid e4
    have E5 : Hid (invB n a = false) := mkHid (by unfold invB; rw [e5]; rfl)
    obtain ⟨x, hx⟩ : ∃ y, invI n a = y := ⟨_, rfl⟩
    have Hx := mkHid hx
    have hd := modB_no.1 hm
    clear e1 e2 e3 e4 e5 hx hm
    rcases hd with hd | hd
    · go_enter Tryd.func5, Tryd.ntmps5
      have B0 := mkHid (Below.refl w.heap.size w)
      go_wp2_with fail
      refine (sane_any _ (HT.out.step B0.out)).mono ?_
      rintro e w1 ⟨rfl, b1⟩
      have B1 := mkHid (B0.out.trans (b1.mono B0.out.size))
      clear b1 B0
      go_wp2_with fail
      refine (inv_any n a _).mono ?_
      rintro e w2 ⟨rfl, b2⟩
      rw [Hx.out, E5.out]
      have b2 := drew_below b2
      have B2 := mkHid (B1.out.trans (b2.mono B1.out.size))
      clear b2 B1
      go_wp2_with fail
      refine (add_any n a b _).mono ?_
      rintro e w' ⟨rfl, rfl⟩
      rw [E1.out]
      go_wp2_with fail
      refine (sub_any n a b _).mono ?_
      rintro e w' ⟨rfl, rfl⟩
      rw [E2.out]
      go_wp2_with fail
      refine (mul_any n a b _).mono ?_
      rintro e w3 ⟨rfl, b3⟩
      rw [E3.out]
      have b3 := drew_below b3
      have B3 := mkHid (B2.out.trans (b3.mono B2.out.size))
      clear b3 B2
      go_wp2_with fail
      refine (pow_any n a b _ b0 b1).mono ?_
      rintro e w4 ⟨rfl, b4⟩
      rw [E4.out]
      have b4 := drew_below b4
      have B4 := mkHid (B3.out.trans (b4.mono B3.out.size))
      clear b4 B3
      go_wp2_with fail
      go_ret
      exact ⟨rfl, B4.out⟩
    · have hd2 : ¬ n < 1 := by omega
      go_enter Tryd.func5, Tryd.ntmps5
      have B0 := mkHid (Below.refl w.heap.size w)
      go_wp2_with fail
      refine (sane_any _ (HT.out.step B0.out)).mono ?_
      rintro e w1 ⟨rfl, b1⟩
      have B1 := mkHid (B0.out.trans (b1.mono B0.out.size))
      clear b1 B0
      go_wp2_with fail
      refine (inv_any n a _).mono ?_
      rintro e w2 ⟨rfl, b2⟩
      rw [Hx.out, E5.out]
      have b2 := drew_below b2
      have B2 := mkHid (B1.out.trans (b2.mono B1.out.size))
      clear b2 B1
      go_wp2_with fail
      refine (add_any n a b _).mono ?_
      rintro e w' ⟨rfl, rfl⟩
      rw [E1.out]
      go_wp2_with fail
      refine (sub_any n a b _).mono ?_
      rintro e w' ⟨rfl, rfl⟩
      rw [E2.out]
      go_wp2_with fail
      refine (mul_any n a b _).mono ?_
      rintro e w3 ⟨rfl, b3⟩
      rw [E3.out]
      have b3 := drew_below b3
      have B3 := mkHid (B2.out.trans (b3.mono B2.out.size))
      clear b3 B2
      go_wp2_with fail
      refine (pow_any n a b _ b0 b1).mono ?_
      rintro e w4 ⟨rfl, b4⟩
      rw [E4.out]
      have b4 := drew_below b4
      have B4 := mkHid (B3.out.trans (b4.mono B3.out.size))
      clear b4 B3
      go_wp2_with fail
      go_ret
      exact ⟨rfl, B4.out⟩
  | true =>
    obtain ⟨r1, r2, r3, r4, r5, r6, r7, r8, r9⟩ := ring_facts n a b c hm
    obtain ⟨q1, q2, q3, q4⟩ := ring_bd n a b hm
    have hn := modB_iff.1 hm
    have hxy := mkHid (mask_mul n a b hm)
    obtain ⟨ab, hab⟩ : ∃ y, addI n a b = y := ⟨_, rfl⟩
    obtain ⟨mm, hmm⟩ : ∃ y, mulI n a b = y := ⟨_, rfl⟩
    obtain ⟨r, hr⟩ : ∃ y, addI n a 0 = y := ⟨_, rfl⟩
    obtain ⟨z, hz⟩ : ∃ y, subI n 0 a = y := ⟨_, rfl⟩
    obtain ⟨bc, hbc⟩ : ∃ y, addI n b c = y := ⟨_, rfl⟩
    obtain ⟨u, hu⟩ : ∃ y, mulI n b c = y := ⟨_, rfl⟩
    obtain ⟨ac, hac⟩ : ∃ y, mulI n a c = y := ⟨_, rfl⟩
    rw [hab] at r1 r3 r5 r7 q1 q2
    rw [hmm] at r2 r6 q3 q4
    rw [hr] at r3 r8
    rw [hz] at r9
    rw [hbc] at r5
    rw [hu] at r6 r7
    rw [hac] at r7
    obtain ⟨s, hs⟩ : ∃ y, addI n ab c = y := ⟨_, rfl⟩
    obtain ⟨t, ht⟩ : ∃ y, mulI n mm c = y := ⟨_, rfl⟩
    obtain ⟨v, hv⟩ : ∃ y, mulI n ab c = y := ⟨_, rfl⟩
    rw [hs] at r5
    rw [ht] at r6
    rw [hv] at r7
    have Hab := mkHid hab
    have Hmm := mkHid hmm
    have Hr := mkHid hr
    have Hz := mkHid hz
    have Hbc := mkHid hbc
    have Hu := mkHid hu
    have Hac := mkHid hac
    have Hs := mkHid hs
    have Ht := mkHid ht
    have Hv := mkHid hv
    have R1 := mkHid r1
    have R2 := mkHid r2
    have R3 := mkHid r3
    have R4 := mkHid r4
    have R5 := mkHid r5
    have R6 := mkHid r6
    have R7 := mkHid r7
    have R8 := mkHid r8
    have R9 := mkHid r9
    clear hab hmm hr hz hbc hu hac hs ht hv r1 r2 r3 r4 r5 r6 r7 r8 r9 hm
    obtain ⟨n1, n2⟩ := hn
    go_enter Tryd.func5, Tryd.ntmps5
    have B0 := mkHid (Below.refl w.heap.size w)
    go_wp2_with fail
    refine (sane_any _ (HT.out.step B0.out)).mono ?_
    rintro e w1 ⟨rfl, b1⟩
    have B1 := mkHid (B0.out.trans (b1.mono B0.out.size))
    clear b1 B0
    go_wp2_with fail
    refine (add_any n a b _).mono ?_
    rintro e w' ⟨rfl, rfl⟩
    rw [Hab.out]
    go_wp2_with fail
    refine (mul_any n a b _).mono ?_
    rintro e w2 ⟨rfl, b2⟩
    rw [Hmm.out]
    have b2 := drew_below b2
    have B2 := mkHid (B1.out.trans (b2.mono B1.out.size))
    clear b2 B1
    go_wp2_with fail
    refine (add_any n b a _).mono ?_
    rintro e w' ⟨rfl, rfl⟩
    rw [R1.out]
    go_wp2_with fail
    refine (mul_any n b a _).mono ?_
    rintro e w3 ⟨rfl, b3⟩
    rw [R2.out]
    have b3 := drew_below b3
    have B3 := mkHid (B2.out.trans (b3.mono B2.out.size))
    clear b3 B2
    go_wp2_with fail
    refine (sub_any n ab b _).mono ?_
    rintro e w' ⟨rfl, rfl⟩
    rw [R3.out]
    go_wp2_with fail
    refine (add_any n a 0 _).mono ?_
    rintro e w' ⟨rfl, rfl⟩
    rw [Hr.out]
    go_wp2_with fail
    refine (sub_any n a a _).mono ?_
    rintro e w' ⟨rfl, rfl⟩
    rw [R4.out]
    go_wp2_with fail
    refine (add_any n ab c _).mono ?_
    rintro e w' ⟨rfl, rfl⟩
    rw [Hs.out]
    go_wp2_with fail
    refine (add_any n b c _).mono ?_
    rintro e w' ⟨rfl, rfl⟩
    rw [Hbc.out]
    go_wp2_with fail
    refine (add_any n a bc _).mono ?_
    rintro e w' ⟨rfl, rfl⟩
    rw [R5.out]
    go_wp2_with fail
    refine (mul_any n mm c _).mono ?_
    rintro e w4 ⟨rfl, b4⟩
    rw [Ht.out]
    have b4 := drew_below b4
    have B4 := mkHid (B3.out.trans (b4.mono B3.out.size))
    clear b4 B3
    go_wp2_with fail
    refine (mul_any n b c _).mono ?_
    rintro e w5 ⟨rfl, b5⟩
    rw [Hu.out]
    have b5 := drew_below b5
    have B5 := mkHid (B4.out.trans (b5.mono B4.out.size))
    clear b5 B4
    go_wp2_with fail
    refine (mul_any n a u _).mono ?_
    rintro e w6 ⟨rfl, b6⟩
    rw [R6.out]
    have b6 := drew_below b6
    have B6 := mkHid (B5.out.trans (b6.mono B5.out.size))
    clear b6 B5
    go_wp2_with fail
    refine (mul_any n ab c _).mono ?_
    rintro e w7 ⟨rfl, b7⟩
    rw [Hv.out]
    have b7 := drew_below b7
    have B7 := mkHid (B6.out.trans (b7.mono B6.out.size))
    clear b7 B6
    go_wp2_with fail
    refine (mul_any n a c _).mono ?_
    rintro e w8 ⟨rfl, b8⟩
    rw [Hac.out]
    have b8 := drew_below b8
    have B8 := mkHid (B7.out.trans (b8.mono B7.out.size))
    clear b8 B7
    go_wp2_with fail
    refine (mul_any n b c _).mono ?_
    rintro e w9 ⟨rfl, b9⟩
    rw [Hu.out]
    have b9 := drew_below b9
    have B9 := mkHid (B8.out.trans (b9.mono B8.out.size))
    clear b9 B8
    go_wp2_with fail
    refine (add_any n ac u _).mono ?_
    rintro e w' ⟨rfl, rfl⟩
    rw [R7.out]
    obtain ⟨X, Y, V, hX, hY, hV, hb1, hb2, hb3, hb4, hb5, hb6, hV2⟩ := hxy.out
    have wXY : IntKind.i64.wrap (X * Y) = X * Y := by simp only [IntKind.wrap_i64]; omega
    have hV3 : (X * Y).tmod n = V := by rw [Int.tmod_eq_emod_of_nonneg hb5]; exact hV2
    have hn0 : ¬ n = 0 := by omega
    have HV := mkHid hV
    clear hV
    go_upto_region 13 with (fail)
    have c1 : ∀ W : World, Calls Tryd.prog 28 #[.int .i64 n, .int .i64 X, .int .i64 Y] W fun e w' => e = .returned (.int .i64 V) ∧ Below W.heap.size W w' := fun W => by have h := mul_b n X Y W; rw [HV.out] at h; exact h
    have c2 : ∀ W : World, Calls Tryd.prog 28 #[.int .i64 n, .int .i64 a, .int .i64 1] W fun e w' => e = .returned (.int .i64 r) ∧ Below W.heap.size W w' := fun W => by have h := mul_b n a 1 W; rw [R8.out] at h; exact h
    have c3 : ∀ W : World, Calls Tryd.prog 24 #[.int .i64 n, .int .i64 a, .int .i64 0] W fun e w' => e = .returned (.int .i64 r) ∧ Below W.heap.size W w' := fun W => by have h := add_b n a 0 W; rw [Hr.out] at h; exact h
    have c4 : ∀ W : World, Calls Tryd.prog 28 #[.int .i64 n, .int .i64 a, .int .i64 (-1)] W fun e w' => e = .returned (.int .i64 z) ∧ Below W.heap.size W w' := fun W => by have h := mul_b n a (-1) W; rw [R9.out] at h; exact h
    have c5 : ∀ W : World, Calls Tryd.prog 26 #[.int .i64 n, .int .i64 0, .int .i64 a] W fun e w' => e = .returned (.int .i64 z) ∧ Below W.heap.size W w' := fun W => by have h := sub_b n 0 a W; rw [Hz.out] at h; exact h
    generalize hWW : w9 = WW at *
    clear hWW
    have k1 := regr WW (fun w _ => c1 w)
    have k2 := regr WW (fun w _ => c2 w)
    have k3 := regr WW (fun w _ => c3 w)
    have k4 := regr WW (fun w _ => c4 w)
    have k5 := regr WW (fun w _ => c5 w)
    clear c1 c2 c3 c4 c5
    refine wp_region_quiet_below (by kernel_rfl) (by kernel_rfl) ?_
    repeat (quiet_step (with_reducible (first | exact k1 _ _ | exact k2 _ _ | exact k3 _ _ | exact k4 _ _ | exact k5 _ _)))
    refine wpQuiet_nil ?_
    intro _ hw'
    obtain ⟨⟨dq, osq⟩, hw''⟩ := hw'
    subst hw''
    go_wp2
    go_ret
    exact ⟨rfl, B9.out.trans ((below_regrown WW dq osq).mono B9.out.size)⟩
end Go.Proofs.YtbllanmhbfnagaaDoor
