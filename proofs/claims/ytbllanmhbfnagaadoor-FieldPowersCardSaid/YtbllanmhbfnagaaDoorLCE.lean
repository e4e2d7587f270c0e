/- FieldPowers: what the property's function computes, part LCE (walk; printed by wip/tools/genlc2.py). -/
import Derived.Test.YtbllanmhbfnagaaDoorLC0
set_option linter.unusedVariables false
set_option linter.unusedSimpArgs false
namespace Go.Proofs.YtbllanmhbfnagaaDoor
open Go.RowKit Go.Sort
set_option maxHeartbeats 4000000 in
set_option maxRecDepth 100000 in
theorem powers_B3 (n0 n a b c : Int) (w : World) (hT : Tab w) (b0 : -32768 ≤ b) (b1 : b ≤ 32767) (c0 : -32768 ≤ c) (c1 : c ≤ 32767) (hn0 : modI n0 = n) (hm : modB n = true) (hok : invB n a = false) (hbs : ¬ 0 ≤ b) (hcs : ¬ 0 ≤ c) :
    Calls Tryd.prog 6 #[.int .i64 n0, .int .i64 a, .int .i16 b, .int .i16 c] w fun e w' => e = .returned (.bool true) ∧ Below w.heap.size w w' := by
  have HT := mkHid hT
  clear hT
  obtain ⟨i1, i2, i3, i4⟩ := inv_facts n a hm
  have hp1 := powS_n1 n a hm
  obtain ⟨n1, n2⟩ := modB_iff.1 hm
  have hbc1 : b * c ≤ 1073741824 := by
    have h := bc_bd b c b0 b1 c0 c1; omega
  have hbc2 : -1073741824 ≤ b * c := by
    have h := bc_bd b c b0 b1 c0 c1; omega
  have wbc : IntKind.i64.wrap (b * c) = b * c := by simp only [IntKind.wrap_i64]; omega
  have wbc2 : IntKind.i64.wrap (b + c) = b + c := by simp only [IntKind.wrap_i64]; omega
  obtain ⟨o, ho⟩ : ∃ y, (1 : Int) % n = y := ⟨_, rfl⟩
  have ho2 : (1 : Int).tmod n = o := by rw [Int.tmod_eq_emod_of_nonneg (by omega)]; exact ho
  have ho3 := ho
  have hnn : ¬ n = 0 := by omega
  obtain ⟨x, hx⟩ : ∃ y, invI n a = y := ⟨_, rfl⟩
  rw [hx] at i1 i2 i4 hp1
  obtain rfl : x = 0 := i4 hok
  clear i4
  have i5 : decide (n ≤ 0) = false := decide_eq_false (by omega)
  have tb : b < 0 := by omega
  have tc : c < 0 := by omega
  have zb := mkHid (powS_noinv n a b hm hok (by omega))
  have zc := mkHid (powS_noinv n a c hm hok (by omega))
  have cp : ∀ W : World, Calls Tryd.prog 30 #[.int .i64 n, .int .i64 a, .int .i64 (-1)] W fun e w' => e = .returned (.int .i64 0) ∧ Below W.heap.size W w' := fun W => by have h := pow_b n a (-1) W (by omega) (by omega); rw [hp1] at h; exact h
  clear i3 hp1
  have Hx := mkHid hx
  have Hok := mkHid hok
  have Hn := mkHid hn0
  clear hx hok hn0 ho hm
  go_enter Tryd.func6, Tryd.ntmps6
  have B0 := mkHid (Below.refl w.heap.size w)
  go_wp2_with fail
  refine (sane_any _ (HT.out.step B0.out)).mono ?_
  rintro e w1 ⟨rfl, b1⟩
  have B1 := mkHid (B0.out.trans (b1.mono B0.out.size))
  clear b1 B0
  go_wp2_with fail
  refine (modulus_any n0 _).mono ?_
  rintro e w' ⟨rfl, rfl⟩
  rw [Hn.out]
  go_wp2_with fail
  refine (inv_any n a _).mono ?_
  rintro e w2 ⟨rfl, b2⟩
  rw [Hx.out, Hok.out]
  have b2 := drew_below b2
  have B2 := mkHid (B1.out.trans (b2.mono B1.out.size))
  clear b2 B1
  go_upto_region 4 with (fail)
  obtain ⟨WW, hWW⟩ : ∃ y, y = w2 := ⟨_, rfl⟩
  rw [← hWW] at B2
  rw [← hWW]
  clear hWW
  have kcp := regr WW (fun w _ => cp w)
  refine wp_region_quiet_below (by kernel_rfl) (by kernel_rfl) ?_
  repeat (quiet_step (with_reducible (first | exact kcp _ _)))
  refine wpQuiet_nil ?_
  intro _ hw'
  obtain ⟨⟨dq, osq⟩, hw''⟩ := hw'
  subst hw''
  have B3 := mkHid (B2.out.trans ((below_regrown WW dq osq).mono B2.out.size))
  clear kcp B2
  generalize grow (redrawn WW dq) osq = w3 at *
  go_wp2_with fail
  refine (pow_any n a b _ (by omega) (by omega)).mono ?_
  rintro e w4 ⟨rfl, b4⟩
  rw [zb.out]
  have b4 := drew_below b4
  have B4 := mkHid (B3.out.trans (b4.mono B3.out.size))
  clear b4 B3
  go_wp2_with fail
  refine (pow_any n a c _ (by omega) (by omega)).mono ?_
  rintro e w5 ⟨rfl, b5⟩
  rw [zc.out]
  have b5 := drew_below b5
  have B5 := mkHid (B4.out.trans (b5.mono B4.out.size))
  clear b5 B4
  go_wp2_with fail
  go_ret
  exact ⟨rfl, B5.out⟩
end Go.Proofs.YtbllanmhbfnagaaDoor
