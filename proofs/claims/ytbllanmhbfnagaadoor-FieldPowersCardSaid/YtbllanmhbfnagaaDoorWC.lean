/- Div64, Rem64, product. -/
import Derived.Test.YtbllanmhbfnagaaDoorWB
import Derived.Test.YtbllanmhbfnagaaDoorShelf
import Derived.Lib.BitFns
import Derived.Laws.BitsAllLaws
set_option linter.unusedVariables false
set_option linter.unusedSimpArgs false
namespace Go.Proofs.YtbllanmhbfnagaaDoor
open Go.RowKit
theorem bl_bounds (x : Nat) (h0 : x ≠ 0) (h : x < 18446744073709551616) : ∃ m, Lib.bitLen x = m + 1 ∧ 2 ^ m ≤ x ∧ x < 2 ^ (m + 1) := by
  induction x using Nat.strongRecOn with
  | _ x ih =>
    rw [Lib.bitLen_half x h0 h]
    by_cases h1 : x / 2 = 0
    · refine ⟨0, by rw [h1]; rfl, by omega, by omega⟩
    · obtain ⟨m, hm, ha, hb⟩ := ih (x / 2) (by omega) h1 (by omega)
      refine ⟨m + 1, by rw [hm]; omega, ?_, ?_⟩
      · rw [Nat.pow_succ]; omega
      · rw [Nat.pow_succ]; omega
theorem and_mask (Y : Int) (h0 : 0 ≤ Y) (h1 : Y ≤ 18446744073709551615) : bits BinOp.and IntKind.u64 Y 4294967295 = Y % 4294967296 := by
  rw [u64_and _ _ h0 (by omega) (by omega) (by omega)]
  rw [show (4294967295 : Int).toNat = 2 ^ 32 - 1 from rfl, Nat.and_two_pow_sub_one_eq_mod]
  omega
theorem or_disjoint (a b : Int) (s : Nat) (h0 : 0 ≤ a) (h1 : a * 2 ^ s + b < 18446744073709551616) (h2 : 0 ≤ b) (h3 : b < 2 ^ s) : bits BinOp.or IntKind.u64 (a * 2 ^ s) b = a * 2 ^ s + b := by
  have hp : (0 : Int) ≤ a * 2 ^ s := Int.mul_nonneg h0 (Int.pow_nonneg (by omega))
  rw [u64_or _ _ hp (by omega) h2 (by omega)]
  obtain ⟨a, rfl⟩ := Int.eq_ofNat_of_zero_le h0
  obtain ⟨b, rfl⟩ := Int.eq_ofNat_of_zero_le h2
  have e : ((a : Int) * 2 ^ s).toNat = 2 ^ s * a := by
    rw [Int.mul_comm]; exact_mod_cast Int.toNat_natCast (2 ^ s * a)
  have hb : b < 2 ^ s := by exact_mod_cast h3
  rw [e, Int.toNat_natCast, ← Nat.two_pow_add_eq_or_of_lt hb a]
  push_cast
  rw [Int.mul_comm]
set_option maxRecDepth 10000 in
theorem div64_any (hi lo y : Int) (w : World) (h0 : 0 < hi) (h1 : hi < y) (h2 : y ≤ 18446744073709551615) (h3 : 0 ≤ lo) (h4 : lo ≤ 18446744073709551615) :
    Calls Tryd.prog 120 #[.int .u64 hi, .int .u64 lo, .int .u64 y] w fun e w' => e = .returned (.tuple #[.int .u64 ((hi * 18446744073709551616 + lo) / y), .int .u64 ((hi * 18446744073709551616 + lo) % y)]) ∧ w = w' := by
  obtain ⟨yn, rfl⟩ := Int.eq_ofNat_of_zero_le (show 0 ≤ y by omega)
  obtain ⟨m, hm, hb⟩ := bl_bounds yn (by omega) (by omega)
  have hb2 : m + 1 ≤ 64 := hm ▸ Lib.bitLen_le yn 64 (by omega) (by omega)
  obtain ⟨s, hs⟩ : ∃ s, m + s = 63 := ⟨63 - m, by omega⟩
  obtain ⟨p1, hEF, hE, hF⟩ := kn_pows hs
  have hb1 : (2 : Int) ^ m ≤ yn := by exact_mod_cast hb.1
  have hb3 : (yn : Int) + 1 ≤ 2 ^ (m + 1) := by exact_mod_cast hb.2
  have hY1 : (9223372036854775808 : Int) ≤ yn * 2 ^ s := by
    have := Int.mul_le_mul_of_nonneg_right hb1 (show 0 ≤ (2 : Int) ^ s by omega)
    rw [p1] at this
    exact this
  have hY2 : (yn * 2 ^ s : Int) ≤ 18446744073709551615 := by
    have := Int.mul_le_mul_of_nonneg_right hb3 (show 0 ≤ (2 : Int) ^ s by omega)
    rw [Int.mul_comm (2 ^ (m + 1)), hEF, Int.add_mul] at this
    omega
  obtain ⟨k1, k2, k3, k4, k5, k6, k7, k8⟩ := kn_shift (lo := lo) hEF hE hF (by omega) h1 h3 (by omega)
  generalize hE' : (2 : Int) ^ s = E at *
  generalize hF' : (2 : Int) ^ (m + 1) = F at *
  generalize hY : (yn : Int) * E = Y at *
  have hhi : 0 ≤ hi * E := Int.mul_nonneg (by omega) (by omega)
  have hy1 := emod_bd Y 4294967296 (by omega)
  have hL1 := emod_bd (lo % F * E) 4294967296 (by omega)
  have b1 : 2147483648 ≤ Y / 4294967296 := by omega
  have b2 : Y / 4294967296 < 4294967296 := by omega
  have bL : 0 ≤ lo % F * E / 4294967296 := by omega
  have bL2 : lo % F * E / 4294967296 < 4294967296 := by omega
  have eY : Y = Y / 4294967296 * 4294967296 + Y % 4294967296 := by omega
  have eL : lo % F * E = lo % F * E / 4294967296 * 4294967296 + lo % F * E % 4294967296 := by omega
  generalize hu : hi * E + lo / F = u at *
  generalize hL : lo % F * E = L at *
  have hv := emod_bd (u * 4294967296 + L / 4294967296) Y (by omega)
  have hr := emod_bd ((u * 4294967296 + L / 4294967296) % Y * 4294967296 + L % 4294967296) Y (by omega)
  have ms := Int.ediv_mul_add_emod (u * 4294967296 + L / 4294967296) Y
  have ms2 := Int.ediv_mul_add_emod ((u * 4294967296 + L / 4294967296) % Y * 4294967296 + L % 4294967296) Y
  have kf := kn_final (U := hi * 18446744073709551616 + lo) (y := yn) (u := u) (L := L) hE (by omega) hY.symm k8 eL rfl rfl rfl rfl
  have st1 := kn_start (d := L / 4294967296) eY b1 b2 hy1.1 hy1.2 k1 k2 bL bL2
  have st2 := kn_start (d := L % 4294967296) eY b1 b2 hy1.1 hy1.2 hv.1 hv.2 hL1.1 hL1.2
  have ra1 := emod_bd u (Y / 4294967296) (by omega)
  have ra2 := emod_bd ((u * 4294967296 + L / 4294967296) % Y) (Y / 4294967296) (by omega)
  have re1 := Int.ediv_mul_add_emod u (Y / 4294967296)
  have re2 := Int.ediv_mul_add_emod ((u * 4294967296 + L / 4294967296) % Y) (Y / 4294967296)
  have es : ((s : Nat) : Int).toNat = s := rfl
  have es2 : (64 - (s : Int)).toNat = m + 1 := by omega
  rw [← kf.1, ← kf.2, ← hE']
  generalize hq1 : (u * 4294967296 + L / 4294967296) / Y = q1 at *
  generalize hvv : (u * 4294967296 + L / 4294967296) % Y = v at *
  generalize hq0 : (v * 4294967296 + L % 4294967296) / Y = q0 at *
  generalize hrr : (v * 4294967296 + L % 4294967296) % Y = rr at *
  refine div64_core (s := s) (Y := Y) (y1 := Y / 4294967296) (y0 := Y % 4294967296) (u := u) (L := L) (d1 := L / 4294967296) (d0 := L % 4294967296) (qa := u / (Y / 4294967296)) (ra := u % (Y / 4294967296))
    (v := v) (qb := v / (Y / 4294967296)) (rb := v % (Y / 4294967296)) (q1 := q1) (q0 := q0) (rr := rr) (hi := hi) (lo := lo) (y := yn) (w := w) hY1 hY2 (by omega) (by omega) b1 b2 hy1.1 hy1.2 k1 k2 bL bL2 hL1.1 hL1.2 (by rw [beq_eq_false_iff_ne]; omega) h1 (by rw [beq_eq_false_iff_ne]; omega)
    ?_ rfl (and_mask _ (by omega) (by omega)) ?_ ?_ rfl (and_mask _ (by omega) (by omega)) eY rfl ?_ ?_ rfl ?_ ?_ (by rw [hq1]; exact st1) (by rw [hq0]; exact st2) hq1 hq0 hv.1 hv.2 ?_
  · rw [es, hE', hY, IntWalk.u64_in _ (by omega)]
  · have := or_disjoint hi (lo / F) s (by omega) (by rw [hE']; omega) k3 (by rw [hE']; exact k4)
    rw [es, es2, hF', IntWalk.u64_in _ (by rw [hE']; omega), this, hE', hu]
  · rw [es, hE', IntKind.wrap_u64, k7]; omega
  · simp only [IntKind.wrap_u64]
    omega
  · simp only [IntKind.wrap_u64]
    omega
  · simp only [IntKind.wrap_u64]
    omega
  · simp only [IntKind.wrap_u64]
    omega
  · intro w
    refine (Tryd.bits_LeadingZeros64 yn w (by omega) (by omega)).mono ?_
    rintro e w' ⟨rfl, rfl⟩
    refine ⟨ret_int ?_, rfl⟩
    rw [Int.toNat_natCast, hm]; omega

/-- The world has been asked for answers, and is otherwise as it was. -/
def Drew (w w' : World) : Prop := ∃ m, w' = w.drewN m
theorem Drew.refl (w : World) : Drew w w := ⟨0, rfl⟩
theorem Drew.of (w : World) (m : Nat) : Drew w (w.drewN m) := ⟨m, rfl⟩
set_option maxHeartbeats 400000 in
theorem div64_zero (lo y : Int) (w : World) (h1 : 0 < y) (h2 : y ≤ 18446744073709551615) (h3 : 0 ≤ lo) (h4 : lo ≤ 18446744073709551615) :
    Calls Tryd.prog 120 #[.int .u64 0, .int .u64 lo, .int .u64 y] w fun e w' => e = .returned (.tuple #[.int .u64 (lo / y), .int .u64 (lo % y)]) ∧ Drew w w' := by
  have e1 : (y == 0) = false := by rw [beq_eq_false_iff_ne]; omega
  have hq : 0 ≤ lo / y := Int.ediv_nonneg h3 (by omega)
  have hr := Int.emod_nonneg lo (show y ≠ 0 by omega)
  go_enter Tryd.func120, Tryd.ntmps120
  go_wp2_with fail
  go_quiet (fail)
  go_wp2
  go_ret2
  exact ⟨rfl, Drew.of _ _⟩
set_option maxHeartbeats 400000 in
theorem rem64_any (hi lo y : Int) (w : World) (h0 : 0 ≤ hi) (h1 : hi < y) (h2 : y ≤ 18446744073709551615) (h3 : 0 ≤ lo) (h4 : lo ≤ 18446744073709551615) :
    Calls Tryd.prog 107 #[.int .u64 hi, .int .u64 lo, .int .u64 y] w fun e w' => e = .returned (.int .u64 ((hi * 18446744073709551616 + lo) % y)) ∧ Drew w w' := by
  have em : Hid (hi % y = hi) := mkHid (Int.emod_eq_of_lt h0 h1)
  by_cases hz : hi = 0
  · subst hz
    go_enter Tryd.func107, Tryd.ntmps107
    go_wp2_with fail
    refine (div64_zero lo y _ h1 h2 h3 h4).mono ?_
    rintro e w' ⟨rfl, m, rfl⟩
    go_wp2
    go_ret
    exact ⟨ret_int (by rw [Int.zero_mul, Int.zero_add]), Drew.of _ _⟩
  · have hp : 0 < hi := by omega
    go_enter Tryd.func107, Tryd.ntmps107
    go_wp2_with fail
    rw [em.out]
    refine (div64_any hi lo y _ hp h1 h2 h3 h4).mono ?_
    rintro e w' ⟨rfl, rfl⟩
    go_wp2
    go_ret
    exact ⟨rfl, Drew.refl _⟩
end Go.Proofs.YtbllanmhbfnagaaDoor

