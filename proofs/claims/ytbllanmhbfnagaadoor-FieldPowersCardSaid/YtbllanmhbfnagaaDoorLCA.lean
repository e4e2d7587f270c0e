/- FieldPowers: what the property's function computes, part A (walk; printed by wip/tools/genlc2.py). -/
import Derived.Test.YtbllanmhbfnagaaDoorLC0
set_option linter.unusedVariables false
set_option linter.unusedSimpArgs false
namespace Go.Proofs.YtbllanmhbfnagaaDoor
open Go.RowKit Go.Sort
set_option maxHeartbeats 4000000 in
set_option maxRecDepth 100000 in
theorem powers_A (n0 n a b c : Int) (w : World) (hT : Tab w) (b0 : -32768 ≤ b) (b1 : b ≤ 32767) (c0 : -32768 ≤ c) (c1 : c ≤ 32767) (hn0 : modI n0 = n) (hm : modB n = true) (hok : invB n a = true) :
    Calls Tryd.prog 6 #[.int .i64 n0, .int .i64 a, .int .i16 b, .int .i16 c] w fun e w' => e = .returned (.bool true) ∧ Below w.heap.size w w' := by
  have HT := mkHid hT
  clear hT
  obtain ⟨i1, i2, i3, i4⟩ := inv_facts n a hm
  have hp1 := powS_n1 n a hm
  obtain ⟨n1, n2⟩ := modB_iff.1 hm
  have hbc1 : b * c ≤ 1073741824 := by
    have h := bc_bd b c b0 b1 c0 c1; omega
  have hbc2 : -1073741824 ≤ b * c := by
    have h := bc_bd b c b0 b1 c0 c1; omega
  have wbc : IntKind.i64.wrap (b * c) = b * c := by simp only [IntKind.wrap_i64]; omega
  have wbc2 : IntKind.i64.wrap (b + c) = b + c := by simp only [IntKind.wrap_i64]; omega
  obtain ⟨o, ho⟩ : ∃ y, (1 : Int) % n = y := ⟨_, rfl⟩
  have ho2 : (1 : Int).tmod n = o := by rw [Int.tmod_eq_emod_of_nonneg (by omega)]; exact ho
  have ho3 := ho
  have hnn : ¬ n = 0 := by omega
  obtain ⟨x, hx⟩ : ∃ y, invI n a = y := ⟨_, rfl⟩
  rw [hx] at i1 i2 i4 hp1
  have hgo : invB n a = true ∨ 0 ≤ b ∧ 0 ≤ c := .inl hok
  obtain ⟨f1, f2⟩ := powers_facts n a b c hm hgo
  obtain ⟨f3, f4⟩ := powS_01 n a hm
  obtain ⟨pj, hpj⟩ : ∃ y, powS n a b = y := ⟨_, rfl⟩
  obtain ⟨pk, hpk⟩ : ∃ y, powS n a c = y := ⟨_, rfl⟩
  obtain ⟨v1, hv1⟩ : ∃ y, powS n a (b + c) = y := ⟨_, rfl⟩
  obtain ⟨v2, hv2⟩ : ∃ y, powS n a (b * c) = y := ⟨_, rfl⟩
  obtain ⟨r, hr⟩ : ∃ y, addI n a 0 = y := ⟨_, rfl⟩
  rw [hpj, hpk, hv1] at f1
  rw [hpj, hv2] at f2
  rw [hr] at f4
  rw [ho] at f3
  have d1 : ∀ W : World, Calls Tryd.prog 30 #[.int .i64 n, .int .i64 a, .int .i64 (b + c)] W fun e w' => e = .returned (.int .i64 v1) ∧ Below W.heap.size W w' := fun W => by have h := pow_b n a (b + c) W (by omega) (by omega); rw [hv1] at h; exact h
  have d2 : ∀ W : World, Calls Tryd.prog 30 #[.int .i64 n, .int .i64 a, .int .i64 c] W fun e w' => e = .returned (.int .i64 pk) ∧ Below W.heap.size W w' := fun W => by have h := pow_b n a c W (by omega) (by omega); rw [hpk] at h; exact h
  have d3 : ∀ W : World, Calls Tryd.prog 28 #[.int .i64 n, .int .i64 pj, .int .i64 pk] W fun e w' => e = .returned (.int .i64 v1) ∧ Below W.heap.size W w' := fun W => by have h := mul_b n pj pk W; rw [← f1] at h; exact h
  have d4 : ∀ W : World, Calls Tryd.prog 30 #[.int .i64 n, .int .i64 a, .int .i64 (b * c)] W fun e w' => e = .returned (.int .i64 v2) ∧ Below W.heap.size W w' := fun W => by have h := pow_b n a (b * c) W (by omega) (by omega); rw [hv2] at h; exact h
  have d5 : ∀ W : World, Calls Tryd.prog 30 #[.int .i64 n, .int .i64 pj, .int .i64 c] W fun e w' => e = .returned (.int .i64 v2) ∧ Below W.heap.size W w' := fun W => by have h := pow_b n pj c W (by omega) (by omega); rw [← f2] at h; exact h
  have d6 : ∀ W : World, Calls Tryd.prog 30 #[.int .i64 n, .int .i64 a, .int .i64 0] W fun e w' => e = .returned (.int .i64 o) ∧ Below W.heap.size W w' := fun W => by have h := pow_b n a 0 W (by omega) (by omega); rw [f3] at h; exact h
  have d7 : ∀ W : World, Calls Tryd.prog 30 #[.int .i64 n, .int .i64 a, .int .i64 1] W fun e w' => e = .returned (.int .i64 r) ∧ Below W.heap.size W w' := fun W => by have h := pow_b n a 1 W (by omega) (by omega); rw [f4] at h; exact h
  have d8 : ∀ W : World, Calls Tryd.prog 24 #[.int .i64 n, .int .i64 a, .int .i64 0] W fun e w' => e = .returned (.int .i64 r) ∧ Below W.heap.size W w' := fun W => by have h := add_b n a 0 W; rw [hr] at h; exact h
  have Hpj := mkHid hpj
  clear f1 f2 f3 f4 hpj hpk hv1 hv2 hr
  have em := i3 hok
  rw [hx, ho] at em
  have cm : ∀ W : World, Calls Tryd.prog 28 #[.int .i64 n, .int .i64 a, .int .i64 x] W fun e w' => e = .returned (.int .i64 o) ∧ Below W.heap.size W w' := fun W => by have h := mul_b n a x W; rw [em] at h; exact h
  have cp : ∀ W : World, Calls Tryd.prog 30 #[.int .i64 n, .int .i64 a, .int .i64 (-1)] W fun e w' => e = .returned (.int .i64 x) ∧ Below W.heap.size W w' := fun W => by have h := pow_b n a (-1) W (by omega) (by omega); rw [hp1] at h; exact h
  clear em i3 i4 hgo hp1
  have Hx := mkHid hx
  have Hok := mkHid hok
  have Hn := mkHid hn0
  clear hx hok hn0 ho hm
  go_enter Tryd.func6, Tryd.ntmps6
  have B0 := mkHid (Below.refl w.heap.size w)
  go_wp2_with fail
  refine (sane_any _ (HT.out.step B0.out)).mono ?_
  rintro e w1 ⟨rfl, b1⟩
  have B1 := mkHid (B0.out.trans (b1.mono B0.out.size))
  clear b1 B0
  go_wp2_with fail
  refine (modulus_any n0 _).mono ?_
  rintro e w' ⟨rfl, rfl⟩
  rw [Hn.out]
  go_wp2_with fail
  refine (inv_any n a _).mono ?_
  rintro e w2 ⟨rfl, b2⟩
  rw [Hx.out, Hok.out]
  have b2 := drew_below b2
  have B2 := mkHid (B1.out.trans (b2.mono B1.out.size))
  clear b2 B1
  go_upto_region 4 with (fail)
  obtain ⟨WW, hWW⟩ : ∃ y, y = w2 := ⟨_, rfl⟩
  rw [← hWW] at B2
  rw [← hWW]
  clear hWW
  have kcm := regr WW (fun w _ => cm w)
  have kcp := regr WW (fun w _ => cp w)
  refine wp_region_quiet_below (by kernel_rfl) (by kernel_rfl) ?_
  repeat (quiet_step (with_reducible (first | exact kcm _ _ | exact kcp _ _)))
  refine wpQuiet_nil ?_
  intro _ hw'
  obtain ⟨⟨dq, osq⟩, hw''⟩ := hw'
  subst hw''
  have B3 := mkHid (B2.out.trans ((below_regrown WW dq osq).mono B2.out.size))
  clear kcm kcp B2
  generalize grow (redrawn WW dq) osq = w3 at *
  go_wp2_with fail
  refine (pow_any n a b _ (by omega) (by omega)).mono ?_
  rintro e w4 ⟨rfl, b4⟩
  rw [Hpj.out]
  have b4 := drew_below b4
  have B4 := mkHid (B3.out.trans (b4.mono B3.out.size))
  clear b4 B3
  go_upto_region 11 with (fail)
  obtain ⟨WW, hWW⟩ : ∃ y, y = w4 := ⟨_, rfl⟩
  rw [← hWW] at B4
  rw [← hWW]
  clear hWW
  have kd1 := regr WW (fun w _ => d1 w)
  have kd2 := regr WW (fun w _ => d2 w)
  have kd3 := regr WW (fun w _ => d3 w)
  have kd4 := regr WW (fun w _ => d4 w)
  have kd5 := regr WW (fun w _ => d5 w)
  have kd6 := regr WW (fun w _ => d6 w)
  have kd7 := regr WW (fun w _ => d7 w)
  have kd8 := regr WW (fun w _ => d8 w)
  refine wp_region_quiet_below (by kernel_rfl) (by kernel_rfl) ?_
  repeat (quiet_step (with_reducible (first | exact kd1 _ _ | exact kd2 _ _ | exact kd3 _ _ | exact kd4 _ _ | exact kd5 _ _ | exact kd6 _ _ | exact kd7 _ _ | exact kd8 _ _)))
  refine wpQuiet_nil ?_
  intro _ hw'
  obtain ⟨⟨dq, osq⟩, hw''⟩ := hw'
  subst hw''
  have B5 := mkHid (B4.out.trans ((below_regrown WW dq osq).mono B4.out.size))
  clear kd1 kd2 kd3 kd4 kd5 kd6 kd7 kd8 B4
  generalize grow (redrawn WW dq) osq = w5 at *
  go_wp2
  go_ret
  exact ⟨rfl, B5.out⟩
end Go.Proofs.YtbllanmhbfnagaaDoor
