/- Div64, Rem64, product. product, power, Mul, Sub, Inv, Pow of field (walks). Inv, Pow of field; the reference's Add, Sub, Mul, power, Inv, Pow (walks). The reference's Add, Sub, Mul, power, Inv, Pow (walks). The reference's power, Inv, Pow (walks). Plain laws: the low 30 bits, products of small numbers (no program in sight). -/
import Derived.Test.YtbllanmhbfnagaaDoorShelf
import Derived.Lib.BitFns
import Derived.Laws.BitsAllLaws
import Derived.Test.YtbllanmhbfnagaaDoorU4
import Derived.Test.YtbllanmhbfnagaaDoorU0
set_option linter.unusedVariables false
set_option linter.unusedSimpArgs false
namespace Go.Proofs.YtbllanmhbfnagaaDoor
open Go.RowKit
theorem bl_bounds (x : Nat) (h0 : x ≠ 0) (h : x < 18446744073709551616) : ∃ m, Lib.bitLen x = m + 1 ∧ 2 ^ m ≤ x ∧ x < 2 ^ (m + 1) := by
  induction x using Nat.strongRecOn with
  | _ x ih =>
    rw [Lib.bitLen_half x h0 h]
    by_cases h1 : x / 2 = 0
    · refine ⟨0, by rw [h1]; rfl, by omega, by omega⟩
    · obtain ⟨m, hm, ha, hb⟩ := ih (x / 2) (by omega) h1 (by omega)
      refine ⟨m + 1, by rw [hm]; omega, ?_, ?_⟩
      · rw [Nat.pow_succ]; omega
      · rw [Nat.pow_succ]; omega
theorem and_mask (Y : Int) (h0 : 0 ≤ Y) (h1 : Y ≤ 18446744073709551615) : bits BinOp.and IntKind.u64 Y 4294967295 = Y % 4294967296 := by
  rw [u64_and _ _ h0 (by omega) (by omega) (by omega)]
  rw [show (4294967295 : Int).toNat = 2 ^ 32 - 1 from rfl, Nat.and_two_pow_sub_one_eq_mod]
  omega
theorem or_disjoint (a b : Int) (s : Nat) (h0 : 0 ≤ a) (h1 : a * 2 ^ s + b < 18446744073709551616) (h2 : 0 ≤ b) (h3 : b < 2 ^ s) : bits BinOp.or IntKind.u64 (a * 2 ^ s) b = a * 2 ^ s + b := by
  have hp : (0 : Int) ≤ a * 2 ^ s := Int.mul_nonneg h0 (Int.pow_nonneg (by omega))
  rw [u64_or _ _ hp (by omega) h2 (by omega)]
  obtain ⟨a, rfl⟩ := Int.eq_ofNat_of_zero_le h0
  obtain ⟨b, rfl⟩ := Int.eq_ofNat_of_zero_le h2
  have e : ((a : Int) * 2 ^ s).toNat = 2 ^ s * a := by
    rw [Int.mul_comm]; exact_mod_cast Int.toNat_natCast (2 ^ s * a)
  have hb : b < 2 ^ s := by exact_mod_cast h3
  rw [e, Int.toNat_natCast, ← Nat.two_pow_add_eq_or_of_lt hb a]
  push_cast
  rw [Int.mul_comm]
set_option maxRecDepth 10000 in
theorem div64_any (hi lo y : Int) (w : World) (h0 : 0 < hi) (h1 : hi < y) (h2 : y ≤ 18446744073709551615) (h3 : 0 ≤ lo) (h4 : lo ≤ 18446744073709551615) :
    Calls Tryd.prog 120 #[.int .u64 hi, .int .u64 lo, .int .u64 y] w fun e w' => e = .returned (.tuple #[.int .u64 ((hi * 18446744073709551616 + lo) / y), .int .u64 ((hi * 18446744073709551616 + lo) % y)]) ∧ w = w' := by
  obtain ⟨yn, rfl⟩ := Int.eq_ofNat_of_zero_le (show 0 ≤ y by omega)
  obtain ⟨m, hm, hb⟩ := bl_bounds yn (by omega) (by omega)
  have hb2 : m + 1 ≤ 64 := hm ▸ Lib.bitLen_le yn 64 (by omega) (by omega)
  obtain ⟨s, hs⟩ : ∃ s, m + s = 63 := ⟨63 - m, by omega⟩
  obtain ⟨p1, hEF, hE, hF⟩ := kn_pows hs
  have hb1 : (2 : Int) ^ m ≤ yn := by exact_mod_cast hb.1
  have hb3 : (yn : Int) + 1 ≤ 2 ^ (m + 1) := by exact_mod_cast hb.2
  have hY1 : (9223372036854775808 : Int) ≤ yn * 2 ^ s := by
    have := Int.mul_le_mul_of_nonneg_right hb1 (show 0 ≤ (2 : Int) ^ s by omega)
    rw [p1] at this
    exact this
  have hY2 : (yn * 2 ^ s : Int) ≤ 18446744073709551615 := by
    have := Int.mul_le_mul_of_nonneg_right hb3 (show 0 ≤ (2 : Int) ^ s by omega)
    rw [Int.mul_comm (2 ^ (m + 1)), hEF, Int.add_mul] at this
    omega
  obtain ⟨k1, k2, k3, k4, k5, k6, k7, k8⟩ := kn_shift (lo := lo) hEF hE hF (by omega) h1 h3 (by omega)
  generalize hE' : (2 : Int) ^ s = E at *
  generalize hF' : (2 : Int) ^ (m + 1) = F at *
  generalize hY : (yn : Int) * E = Y at *
  have hhi : 0 ≤ hi * E := Int.mul_nonneg (by omega) (by omega)
  have hy1 := emod_bd Y 4294967296 (by omega)
  have hL1 := emod_bd (lo % F * E) 4294967296 (by omega)
  have b1 : 2147483648 ≤ Y / 4294967296 := by omega
  have b2 : Y / 4294967296 < 4294967296 := by omega
  have bL : 0 ≤ lo % F * E / 4294967296 := by omega
  have bL2 : lo % F * E / 4294967296 < 4294967296 := by omega
  have eY : Y = Y / 4294967296 * 4294967296 + Y % 4294967296 := by omega
  have eL : lo % F * E = lo % F * E / 4294967296 * 4294967296 + lo % F * E % 4294967296 := by omega
  generalize hu : hi * E + lo / F = u at *
  generalize hL : lo % F * E = L at *
  have hv := emod_bd (u * 4294967296 + L / 4294967296) Y (by omega)
  have hr := emod_bd ((u * 4294967296 + L / 4294967296) % Y * 4294967296 + L % 4294967296) Y (by omega)
  have ms := Int.ediv_mul_add_emod (u * 4294967296 + L / 4294967296) Y
  have ms2 := Int.ediv_mul_add_emod ((u * 4294967296 + L / 4294967296) % Y * 4294967296 + L % 4294967296) Y
  have kf := kn_final (U := hi * 18446744073709551616 + lo) (y := yn) (u := u) (L := L) hE (by omega) hY.symm k8 eL rfl rfl rfl rfl
  have st1 := kn_start (d := L / 4294967296) eY b1 b2 hy1.1 hy1.2 k1 k2 bL bL2
  have st2 := kn_start (d := L % 4294967296) eY b1 b2 hy1.1 hy1.2 hv.1 hv.2 hL1.1 hL1.2
  have ra1 := emod_bd u (Y / 4294967296) (by omega)
  have ra2 := emod_bd ((u * 4294967296 + L / 4294967296) % Y) (Y / 4294967296) (by omega)
  have re1 := Int.ediv_mul_add_emod u (Y / 4294967296)
  have re2 := Int.ediv_mul_add_emod ((u * 4294967296 + L / 4294967296) % Y) (Y / 4294967296)
  have es : ((s : Nat) : Int).toNat = s := rfl
  have es2 : (64 - (s : Int)).toNat = m + 1 := by omega
  rw [← kf.1, ← kf.2, ← hE']
  generalize hq1 : (u * 4294967296 + L / 4294967296) / Y = q1 at *
  generalize hvv : (u * 4294967296 + L / 4294967296) % Y = v at *
  generalize hq0 : (v * 4294967296 + L % 4294967296) / Y = q0 at *
  generalize hrr : (v * 4294967296 + L % 4294967296) % Y = rr at *
  refine div64_core (s := s) (Y := Y) (y1 := Y / 4294967296) (y0 := Y % 4294967296) (u := u) (L := L) (d1 := L / 4294967296) (d0 := L % 4294967296) (qa := u / (Y / 4294967296)) (ra := u % (Y / 4294967296))
    (v := v) (qb := v / (Y / 4294967296)) (rb := v % (Y / 4294967296)) (q1 := q1) (q0 := q0) (rr := rr) (hi := hi) (lo := lo) (y := yn) (w := w) hY1 hY2 (by omega) (by omega) b1 b2 hy1.1 hy1.2 k1 k2 bL bL2 hL1.1 hL1.2 (by rw [beq_eq_false_iff_ne]; omega) h1 (by rw [beq_eq_false_iff_ne]; omega)
    ?_ rfl (and_mask _ (by omega) (by omega)) ?_ ?_ rfl (and_mask _ (by omega) (by omega)) eY rfl ?_ ?_ rfl ?_ ?_ (by rw [hq1]; exact st1) (by rw [hq0]; exact st2) hq1 hq0 hv.1 hv.2 ?_
  · rw [es, hE', hY, IntWalk.u64_in _ (by omega)]
  · have := or_disjoint hi (lo / F) s (by omega) (by rw [hE']; omega) k3 (by rw [hE']; exact k4)
    rw [es, es2, hF', IntWalk.u64_in _ (by rw [hE']; omega), this, hE', hu]
  · rw [es, hE', IntKind.wrap_u64, k7]; omega
  · simp only [IntKind.wrap_u64]
    omega
  · simp only [IntKind.wrap_u64]
    omega
  · simp only [IntKind.wrap_u64]
    omega
  · simp only [IntKind.wrap_u64]
    omega
  · intro w
    refine (Tryd.bits_LeadingZeros64 yn w (by omega) (by omega)).mono ?_
    rintro e w' ⟨rfl, rfl⟩
    refine ⟨ret_int ?_, rfl⟩
    rw [Int.toNat_natCast, hm]; omega

/-- The world has been asked for answers, and is otherwise as it was. -/
def Drew (w w' : World) : Prop := ∃ m, w' = w.drewN m
theorem Drew.refl (w : World) : Drew w w := ⟨0, rfl⟩
theorem Drew.of (w : World) (m : Nat) : Drew w (w.drewN m) := ⟨m, rfl⟩
set_option maxHeartbeats 400000 in
theorem div64_zero (lo y : Int) (w : World) (h1 : 0 < y) (h2 : y ≤ 18446744073709551615) (h3 : 0 ≤ lo) (h4 : lo ≤ 18446744073709551615) :
    Calls Tryd.prog 120 #[.int .u64 0, .int .u64 lo, .int .u64 y] w fun e w' => e = .returned (.tuple #[.int .u64 (lo / y), .int .u64 (lo % y)]) ∧ Drew w w' := by
  have e1 : (y == 0) = false := by rw [beq_eq_false_iff_ne]; omega
  have hq : 0 ≤ lo / y := Int.ediv_nonneg h3 (by omega)
  have hr := Int.emod_nonneg lo (show y ≠ 0 by omega)
  go_enter Tryd.func120, Tryd.ntmps120
  go_wp2_with fail
  go_quiet (fail)
  go_wp2
  go_ret2
  exact ⟨rfl, Drew.of _ _⟩
set_option maxHeartbeats 400000 in
theorem rem64_any (hi lo y : Int) (w : World) (h0 : 0 ≤ hi) (h1 : hi < y) (h2 : y ≤ 18446744073709551615) (h3 : 0 ≤ lo) (h4 : lo ≤ 18446744073709551615) :
    Calls Tryd.prog 107 #[.int .u64 hi, .int .u64 lo, .int .u64 y] w fun e w' => e = .returned (.int .u64 ((hi * 18446744073709551616 + lo) % y)) ∧ Drew w w' := by
  have em : Hid (hi % y = hi) := mkHid (Int.emod_eq_of_lt h0 h1)
  by_cases hz : hi = 0
  · subst hz
    go_enter Tryd.func107, Tryd.ntmps107
    go_wp2_with fail
    refine (div64_zero lo y _ h1 h2 h3 h4).mono ?_
    rintro e w' ⟨rfl, m, rfl⟩
    go_wp2
    go_ret
    exact ⟨ret_int (by rw [Int.zero_mul, Int.zero_add]), Drew.of _ _⟩
  · have hp : 0 < hi := by omega
    go_enter Tryd.func107, Tryd.ntmps107
    go_wp2_with fail
    rw [em.out]
    refine (div64_any hi lo y _ hp h1 h2 h3 h4).mono ?_
    rintro e w' ⟨rfl, rfl⟩
    go_wp2
    go_ret
    exact ⟨rfl, Drew.refl _⟩
end Go.Proofs.YtbllanmhbfnagaaDoor
namespace Go.Proofs.YtbllanmhbfnagaaDoor
open Go.RowKit

set_option maxHeartbeats 400000 in
theorem product_any (n a b : Int) (w : World) (h1 : 1 ≤ n) (h2 : n < 2305843009213693952) (a0 : 0 ≤ a) (a1 : a < n) (b0 : 0 ≤ b) (b1 : b < n) :
    Calls Tryd.prog 83 #[.int .i64 n, .int .u64 a, .int .u64 b] w fun e w' => e = .returned (.int .u64 (a * b % n)) ∧ Drew w w' := by
  obtain ⟨x, rfl⟩ := Int.eq_ofNat_of_zero_le a0
  obtain ⟨y, rfl⟩ := Int.eq_ofNat_of_zero_le b0
  have M := mkHid (Tryd.bits_Mul64 x y (by omega) (by omega))
  have hxy : x * y ≤ 5316911983139663491615228241121378304 := by
    have := Nat.mul_le_mul (show x ≤ 2305843009213693952 by omega) (show y ≤ 2305843009213693952 by omega)
    simpa using this
  have hxn : x * y < n.toNat * 2305843009213693952 := by
    rcases Nat.eq_zero_or_pos y with h | h
    · subst h; omega
    · have h3 := Nat.mul_lt_mul_of_pos_right (show x < n.toNat by omega) h
      have h4 := Nat.mul_le_mul_left n.toNat (show y ≤ 2305843009213693952 by omega)
      omega
  go_enter Tryd.func83, Tryd.ntmps83
  go_wp2_with fail
  refine (M.out _).mono ?_
  rintro e w' ⟨rfl, rfl⟩
  go_wp2_with fail
  generalize hp : x * y = p at *
  refine (rem64_any _ _ _ _ (by omega) (by omega) (by omega) (by omega) (by omega)).mono ?_
  rintro e w' ⟨rfl, m, rfl⟩
  go_wp2
  go_ret
  refine ⟨ret_int ?_, Drew.of _ _⟩
  have : ((x : Int) * y) = (p : Int) := by exact_mod_cast hp
  rw [this]
  congr 1
  omega

set_option maxHeartbeats 400000 in
theorem sub_any (n a b : Int) (w : World) :
    Calls Tryd.prog 26 #[.int .i64 n, .int .i64 a, .int .i64 b] w fun e w' => e = .returned (.int .i64 (subI n a b)) ∧ w = w' := by
  cases hm : modB n
  · have H := mkHid hm
    go_enter Tryd.func26, Tryd.ntmps26
    go_wp2_with (go_at_call 76; refine (valid_no _ _ H.out).mono ?_; rintro e w' ⟨rfl, rfl⟩)
    go_ret
    exact ⟨ret_int (by simp [subI, hm]), rfl⟩
  · obtain ⟨h1, h2⟩ := modB_iff.1 hm
    have H := mkHid hm
    obtain ⟨a1, a2⟩ := emod_bd a n h1
    obtain ⟨a5, a6⟩ := emod_bd (a % n + n - b) n h1
    obtain ⟨a3, a4⟩ := emod_bd b n h1
    clear hm
    go_enter Tryd.func26, Tryd.ntmps26
    go_wp2_with (first | (go_at_call 76; refine (valid_yes _ _ H.out).mono ?_; rintro e w' ⟨rfl, rfl⟩) | (go_at_call 77; refine (residue_any _ _ _ h1 h2).mono ?_; rintro e w' ⟨rfl, rfl⟩))
    go_ret
    exact ⟨ret_int (by unfold subI; rw [if_pos H.out, sub_mod']), rfl⟩
set_option maxHeartbeats 400000 in
theorem mul_any (n a b : Int) (w : World) :
    Calls Tryd.prog 28 #[.int .i64 n, .int .i64 a, .int .i64 b] w fun e w' => e = .returned (.int .i64 (mulI n a b)) ∧ Drew w w' := by
  cases hm : modB n
  · have H := mkHid hm
    go_enter Tryd.func28, Tryd.ntmps28
    go_wp2_with (go_at_call 76; refine (valid_no _ _ H.out).mono ?_; rintro e w' ⟨rfl, rfl⟩)
    go_ret
    exact ⟨ret_int (by simp [mulI, hm]), Drew.refl _⟩
  · obtain ⟨h1, h2⟩ := modB_iff.1 hm
    have H := mkHid hm
    obtain ⟨a1, a2⟩ := emod_bd a n h1
    obtain ⟨a3, a4⟩ := emod_bd b n h1
    obtain ⟨a5, a6⟩ := emod_bd (a % n * (b % n)) n h1
    clear hm
    go_enter Tryd.func28, Tryd.ntmps28
    go_wp2_with (first | (go_at_call 76; refine (valid_yes _ _ H.out).mono ?_; rintro e w' ⟨rfl, rfl⟩) | (go_at_call 77; refine (residue_any _ _ _ h1 h2).mono ?_; rintro e w' ⟨rfl, rfl⟩) | (go_at_call 83; refine (product_any _ _ _ _ h1 h2 a1 a2 a3 a4).mono ?_; rintro e w' ⟨rfl, m, rfl⟩))
    go_ret
    refine ⟨ret_int ?_, Drew.of _ _⟩
    unfold mulI
    rw [if_pos H.out, mul_mod_l, mul_mod_r]
theorem and_one (b : Int) (h0 : 0 ≤ b) (h1 : b ≤ 18446744073709551615) : bits BinOp.and IntKind.u64 b 1 = b % 2 := by
  rw [u64_and _ _ h0 (by omega) (by omega) (by omega), show (1 : Int).toNat = 1 from rfl, Nat.and_one_is_mod]
  omega
set_option maxHeartbeats 400000 in
theorem power_any (n a b : Int) (w : World) (h1 : 1 ≤ n) (h2 : n < 2305843009213693952) (a0 : 0 ≤ a) (a1 : a < n) (b0 : 0 ≤ b) (b1 : b ≤ 18446744073709551615) :
    Calls Tryd.prog 84 #[.int .i64 n, .int .u64 a, .int .u64 b] w fun e w' => e = .returned (.int .u64 (powI n a b.toNat)) ∧ Drew w w' := by
  obtain ⟨o0, o1⟩ := emod_bd 1 n h1
  have st := mkHid (PowInv.start h1 a0 a1 b0 b1)
  go_enter Tryd.func84, Tryd.ntmps84
  go_wp2_with fail
  go_loopw [1, 2, 7] (fun x y z wr => ∃ x' y' z' : Int, x = .int .u64 x' ∧ y = .int .u64 y' ∧ z = .int .u64 z' ∧ PowInv n a b.toNat x' y' z' ∧ Drew w wr) (fun _ y _ _ => (intOf y).toNat)
  case atStart => exact ⟨_, _, _, rfl, rfl, rfl, st.out, Drew.refl _⟩
  case round =>
    obtain ⟨x, y, z, rfl, rfl, rfl, hk, hd⟩ := hrel
    obtain ⟨x0, x1, y0, y1, z0, z1⟩ := (show 0 ≤ x ∧ x < n ∧ 0 ≤ y ∧ y ≤ 18446744073709551615 ∧ 0 ≤ z ∧ z < n from ⟨hk.a0, hk.a1, hk.b0, hk.b1, hk.o0, hk.o1⟩)
    obtain ⟨m, rfl⟩ := hd
    have HK := mkHid hk; clear hk
    by_cases hy : 0 < y
    · obtain ⟨p0, p1⟩ := emod_bd (x * x) n h1
      obtain ⟨p2, p3⟩ := emod_bd (z * x) n h1
      have ha := and_one y y0 y1
      by_cases hodd : y % 2 = 1
      · have HN : Hid (PowInv n a b.toNat (x * x % n) (y / 2) (z * x % n)) := mkHid (HK.out.odd h1 hodd)
        go_wp2_with fail
        refine (product_any n z x _ h1 h2 z0 z1 x0 x1).mono ?_
        rintro e w' ⟨rfl, m, rfl⟩
        go_wp2_with fail
        refine (product_any n x x _ h1 h2 x0 x1 x0 x1).mono ?_
        rintro e w' ⟨rfl, m, rfl⟩
        go_wp2
        go_roundw
        case rel => exact ⟨_, _, _, rfl, rfl, rfl, HN.out, Drew.of _ _⟩
        case measure => simp [intOf]; omega
      · have HN : Hid (PowInv n a b.toNat (x * x % n) (y / 2) z) := mkHid (HK.out.even h1 (by omega))
        go_wp2_with (go_at_call 83; (refine (product_any n x x _ h1 h2 x0 x1 x0 x1).mono ?_; rintro e w' ⟨rfl, m, rfl⟩))
        go_roundw
        case rel => exact ⟨_, _, _, rfl, rfl, rfl, HN.out, Drew.of _ _⟩
        case measure => simp [intOf]; omega
    · go_wp2
      go_ret
      exact ⟨ret_int (HK.out.done (by omega)), Drew.of _ _⟩
end Go.Proofs.YtbllanmhbfnagaaDoor
namespace Go.Proofs.YtbllanmhbfnagaaDoor
open Go.RowKit

theorem and_three (b : Int) (h0 : 0 ≤ b) (h1 : b ≤ 9223372036854775807) : bits BinOp.and IntKind.i64 b 3 = b % 4 := by
  obtain ⟨B, rfl⟩ := Int.eq_ofNat_of_zero_le h0
  show IntKind.i64.wrap ((BitVec.ofInt 64 (B : Int) &&& BitVec.ofInt 64 ((3 : Nat) : Int)).toNat : Int) = _
  rw [BitVec.toNat_and, ofInt_u64 B (by omega), ofInt_u64 3 (by omega), nat_mask2, IntKind.wrap_i64]
  omega

set_option maxHeartbeats 400000 in
theorem inv_any (n a : Int) (w : World) :
    Calls Tryd.prog 20 #[.int .i64 n, .int .i64 a] w fun e w' => e = .returned (.tuple #[.int .i64 (invI n a), .bool (invB n a)]) ∧ Drew w w' := by
  cases hm : modB n
  · have H := mkHid hm
    go_enter Tryd.func20, Tryd.ntmps20
    go_wp2_with (go_at_call 76; refine (valid_no _ _ H.out).mono ?_; rintro e w' ⟨rfl, rfl⟩)
    go_ret2
    exact ⟨by simp [invI, invB, invO, hm], Drew.refl _⟩
  · obtain ⟨h1, h2⟩ := modB_iff.1 hm
    have H := mkHid hm
    obtain ⟨a1, a2⟩ := emod_bd a n h1
    have st := mkHid (InvInv.start (A := a) hm (Or.inl rfl))
    clear hm
    go_enter Tryd.func20, Tryd.ntmps20
    go_wp2_with (first | (go_at_call 76; refine (valid_yes _ _ H.out).mono ?_; rintro e w' ⟨rfl, rfl⟩) | (go_at_call 77; refine (residue_any _ _ _ h1 h2).mono ?_; rintro e w' ⟨rfl, rfl⟩))
    go_loopw [6, 7, 8, 9] (fun r s x y wr => ∃ r' s' x' y' : Int, r = .int .i64 r' ∧ s = .int .i64 s' ∧ x = .int .i64 x' ∧ y = .int .i64 y' ∧ InvInv n a r' s' x' y' ∧ Drew w wr) (fun _ s _ _ _ => (intOf s).toNat)
    case atStart => exact ⟨_, _, _, _, rfl, rfl, rfl, rfl, st.out, Drew.refl _⟩
    case round =>
      obtain ⟨r, s, x, y, rfl, rfl, rfl, rfl, hk, hd⟩ := hrel
      obtain ⟨m, rfl⟩ := hd
      obtain ⟨r0, r1, s0, s1, x0, x1, y0, y1⟩ := (show 1 ≤ r ∧ r < 2305843009213693952 ∧ 0 ≤ s ∧ s < 2305843009213693952 ∧ 0 ≤ x ∧ x < 2305843009213693952 ∧ 0 ≤ y ∧ y < 2305843009213693952 from ⟨hk.r0, hk.r1, hk.s0, hk.s1, hk.x0, hk.x1, hk.y0, hk.y1⟩)
      have HK := mkHid hk; clear hk
      by_cases hs : 0 < s
      · have HN : Hid (InvInv n a s (r - r / s * s) y (subI n x (mulI n (r / s) y))) := mkHid (HK.out.next H.out (by omega))
        have e := Int.ediv_mul_add_emod r s
        obtain ⟨b1, b2⟩ := emod_bd r s (by omega)
        have b3 : 0 ≤ r / s * s := Int.mul_nonneg (Int.ediv_nonneg (by omega) (by omega)) s0
        have b4 : r / s * s ≤ r := by omega
        have b5 : r - r / s * s < s := by omega
        clear e b1 b2
        have c1 : (s != 0) = true := by rw [bne_iff_ne]; omega
        go_wp2_with fail
        refine (mul_any _ _ _ _).mono ?_
        rintro e w' ⟨rfl, m, rfl⟩
        go_wp2_with fail
        refine (sub_any _ _ _ _).mono ?_
        rintro e w' ⟨rfl, rfl⟩
        go_wp2
        go_roundw
        case rel => exact ⟨_, _, _, _, rfl, rfl, rfl, rfl, HN.out, Drew.of _ _⟩
        case measure => simp [intOf]; omega
      · have c1 : (s != 0) = false := by rw [bne_eq_false_iff_eq]; omega
        by_cases hr : r = 1
        · have c2 : (r != 1) = false := by rw [bne_eq_false_iff_eq]; omega
          have HV := mkHid (HK.out.yes H.out hr)
          clear hr
          go_wp2
          go_ret2
          exact ⟨by simp [invI, invB, HV.out], Drew.of _ _⟩
        · have c2 : (r != 1) = true := by rw [bne_iff_ne]; omega
          have HV := mkHid (HK.out.no (by omega) hr)
          clear hr
          go_wp2
          go_ret2
          exact ⟨by simp [invI, invB, HV.out], Drew.of _ _⟩
set_option maxHeartbeats 400000 in
theorem pow_any (n a b : Int) (w : World) (hb0 : -9223372036854775808 ≤ b) (hb1 : b ≤ 9223372036854775807) :
    Calls Tryd.prog 30 #[.int .i64 n, .int .i64 a, .int .i64 b] w fun e w' => e = .returned (.int .i64 (powS n a b)) ∧ Drew w w' := by
  cases hm : modB n
  · have H := mkHid hm
    go_enter Tryd.func30, Tryd.ntmps30
    go_wp2_with (go_at_call 76; refine (valid_no _ _ H.out).mono ?_; rintro e w' ⟨rfl, rfl⟩)
    go_ret
    exact ⟨ret_int (by simp [powS, hm]), Drew.refl _⟩
  · obtain ⟨h1, h2⟩ := modB_iff.1 hm
    have H := mkHid hm
    obtain ⟨a1, a2⟩ := emod_bd a n h1
    by_cases hb : 0 ≤ b
    · obtain ⟨p0, p1⟩ := powI_bd h1 (a % n) b.toNat
      clear hm
      go_enter Tryd.func30, Tryd.ntmps30
      go_wp2_with (first | (go_at_call 76; refine (valid_yes _ _ H.out).mono ?_; rintro e w' ⟨rfl, rfl⟩) | (go_at_call 77; refine (residue_any _ _ _ h1 h2).mono ?_; rintro e w' ⟨rfl, rfl⟩) | (go_at_call 84; refine (power_any _ _ _ _ h1 h2 (by omega) (by omega) (by omega) (by omega)).mono ?_; rintro e w' ⟨rfl, m, rfl⟩))
      go_ret
      exact ⟨ret_int (by unfold powS; rw [if_pos H.out, if_pos hb, powI_mod]), Drew.of _ _⟩
    · cases hi : invO n a with
      | none =>
        have c1 := mkHid (show invB n a = false by simp [invB, hi])
        have HI := mkHid hi
        clear hm hi
        go_enter Tryd.func30, Tryd.ntmps30
        go_wp2_with (first | (go_at_call 76; refine (valid_yes _ _ H.out).mono ?_; rintro e w' ⟨rfl, rfl⟩) | (go_at_call 20; refine (inv_any _ _ _).mono ?_; rintro e w' ⟨rfl, m, rfl⟩; rw [c1.out]))
        go_ret
        exact ⟨ret_int (by unfold powS; rw [if_pos H.out, if_neg (by omega), HI.out]), Drew.of _ _⟩
      | some x =>
        have c1 := mkHid (show invB n a = true by simp [invB, hi])
        have c2 := mkHid (show invI n a = x by simp [invI, hi])
        have HI := mkHid hi
        obtain ⟨_, x0, x1, _⟩ := invO_some hi
        obtain ⟨p0, p1⟩ := powI_bd h1 x (-b).toNat
        clear hm hi
        have e1 : IntKind.u64.wrap (-IntKind.u64.wrap b) = -b := by simp only [IntKind.wrap_u64]; omega
        go_enter Tryd.func30, Tryd.ntmps30
        go_wp2_with (first | (go_at_call 76; refine (valid_yes _ _ H.out).mono ?_; rintro e w' ⟨rfl, rfl⟩) | (go_at_call 20; refine (inv_any _ _ _).mono ?_; rintro e w' ⟨rfl, m, rfl⟩; rw [c1.out, c2.out]) | (go_at_call 84; refine (power_any _ _ _ _ h1 h2 (by omega) (by omega) (by omega) (by omega)).mono ?_; rintro e w' ⟨rfl, m, rfl⟩))
        go_ret
        exact ⟨ret_int (by unfold powS; rw [if_pos H.out, if_neg (by omega), HI.out]), Drew.of _ _⟩
end Go.Proofs.YtbllanmhbfnagaaDoor
namespace Go.Proofs.YtbllanmhbfnagaaDoor
open Go.RowKit

set_option maxHeartbeats 400000 in
theorem radd_any (n a b : Int) (w : World) :
    Calls Tryd.prog 25 #[.int .i64 n, .int .i64 a, .int .i64 b] w fun e w' => e = .returned (.int .i64 (addI n a b)) ∧ w = w' := by
  cases hm : modB n
  · have H := mkHid hm
    go_enter Tryd.func25, Tryd.ntmps25
    go_wp2_with (go_at_call 78; refine (rvalid_no _ _ H.out).mono ?_; rintro e w' ⟨rfl, rfl⟩)
    go_ret
    exact ⟨ret_int (by simp [addI, hm]), rfl⟩
  · obtain ⟨h1, h2⟩ := modB_iff.1 hm
    have H := mkHid hm
    obtain ⟨a1, a2⟩ := emod_bd a n h1
    obtain ⟨a3, a4⟩ := emod_bd b n h1
    obtain ⟨a5, a6⟩ := emod_bd (a + b) n h1
    clear hm
    go_enter Tryd.func25, Tryd.ntmps25
    go_wp2_with (first | (go_at_call 78; refine (rvalid_yes _ _ H.out).mono ?_; rintro e w' ⟨rfl, rfl⟩) | (go_at_call 79; refine (rresidue_any _ _ _ h1 h2).mono ?_; rintro e w' ⟨rfl, rfl⟩))
    go_ret
    exact ⟨ret_int (by unfold addI; rw [if_pos H.out, ← Int.add_emod]), rfl⟩
set_option maxHeartbeats 400000 in
theorem rsub_any (n a b : Int) (w : World) :
    Calls Tryd.prog 27 #[.int .i64 n, .int .i64 a, .int .i64 b] w fun e w' => e = .returned (.int .i64 (subI n a b)) ∧ w = w' := by
  cases hm : modB n
  · have H := mkHid hm
    go_enter Tryd.func27, Tryd.ntmps27
    go_wp2_with (go_at_call 78; refine (rvalid_no _ _ H.out).mono ?_; rintro e w' ⟨rfl, rfl⟩)
    go_ret
    exact ⟨ret_int (by simp [subI, hm]), rfl⟩
  · obtain ⟨h1, h2⟩ := modB_iff.1 hm
    have H := mkHid hm
    obtain ⟨a1, a2⟩ := emod_bd a n h1
    obtain ⟨a3, a4⟩ := emod_bd b n h1
    obtain ⟨a5, a6⟩ := emod_bd (a % n + n - b) n h1
    clear hm
    go_enter Tryd.func27, Tryd.ntmps27
    go_wp2_with (first | (go_at_call 78; refine (rvalid_yes _ _ H.out).mono ?_; rintro e w' ⟨rfl, rfl⟩) | (go_at_call 79; refine (rresidue_any _ _ _ h1 h2).mono ?_; rintro e w' ⟨rfl, rfl⟩))
    go_ret
    exact ⟨ret_int (by unfold subI; rw [if_pos H.out, sub_mod]), rfl⟩
/-- What holds at the head of Mul's outer loop. -/
structure MulInv (n x y k o : Int) : Prop where
  k0 : -2 ≤ k
  k1 : k ≤ 60
  o0 : 0 ≤ o
  o1 : o < n
  par : k % 2 = 0
  val : o = y / 2 ^ (k + 2).toNat * x % n
set_option maxHeartbeats 1000000 in
theorem rmul_any (n a b : Int) (w : World) :
    Calls Tryd.prog 29 #[.int .i64 n, .int .i64 a, .int .i64 b] w fun e w' => e = .returned (.int .i64 (mulI n a b)) ∧ w = w' := by
  cases hm : modB n
  · have H := mkHid hm
    go_enter Tryd.func29, Tryd.ntmps29
    go_wp2_with (go_at_call 78; refine (rvalid_no _ _ H.out).mono ?_; rintro e w' ⟨rfl, rfl⟩)
    go_ret
    exact ⟨ret_int (by simp [mulI, hm]), rfl⟩
  · obtain ⟨h1, h2⟩ := modB_iff.1 hm
    have H := mkHid hm
    obtain ⟨a1, a2⟩ := emod_bd a n h1
    obtain ⟨a3, a4⟩ := emod_bd b n h1
    have HF : Hid (mulI n a b = b % n * (a % n) % n) := mkHid (by unfold mulI; rw [if_pos hm, mul_mod_l, mul_mod_r, Int.mul_comm])
    have HG : Hid (mulI n a b = a % n * (b % n) % n) := mkHid (by unfold mulI; rw [if_pos hm, mul_mod_l, mul_mod_r])
    clear hm
    by_cases hs : n ≤ 2147483648
    · obtain ⟨p1, p2⟩ : 0 ≤ a % n * (b % n) ∧ a % n * (b % n) ≤ 4611686018427387904 := by
        refine ⟨Int.mul_nonneg a1 a3, ?_⟩
        have := Int.mul_le_mul (show a % n ≤ 2147483648 by omega) (show b % n ≤ 2147483648 by omega) a3 (by omega)
        omega
      obtain ⟨p3, p4⟩ := emod_bd (a % n * (b % n)) n h1
      go_enter Tryd.func29, Tryd.ntmps29
      go_wp2_with (first | (go_at_call 78; refine (rvalid_yes _ _ H.out).mono ?_; rintro e w' ⟨rfl, rfl⟩) | (go_at_call 79; refine (rresidue_any _ _ _ h1 h2).mono ?_; rintro e w' ⟨rfl, rfl⟩))
      go_ret
      refine ⟨ret_int ?_, rfl⟩
      rw [HG.out, mul_mod_l, mul_mod_r]
    · go_enter Tryd.func29, Tryd.ntmps29
      go_wp2_with (first | (go_at_call 78; refine (rvalid_yes _ _ H.out).mono ?_; rintro e w' ⟨rfl, rfl⟩) | (go_at_call 79; refine (rresidue_any _ _ _ h1 h2).mono ?_; rintro e w' ⟨rfl, rfl⟩))
      generalize a % n = x at *
      generalize b % n = y at *
      have hy0 := shr_top y a3 (by omega)
      go_loop [9, 10] (fun u v => ∃ o k : Int, u = .int .i64 o ∧ v = .int .i64 k ∧ MulInv n x y k o) (fun _ v => (intOf v + 2).toNat)
      case atStart => exact ⟨0, 60, rfl, rfl, ⟨by omega, by omega, by omega, by omega, by omega, by rw [hy0]; simp⟩⟩
      case round =>
        clear hy0
        obtain ⟨o, k, rfl, rfl, hk⟩ := hrel
        obtain ⟨k0, k1, o0, o1⟩ := (show -2 ≤ k ∧ k ≤ 60 ∧ 0 ≤ o ∧ o < n from ⟨hk.k0, hk.k1, hk.o0, hk.o1⟩)
        have kp := mkHid hk.par
        by_cases hk0 : 0 ≤ k
        · have e1 := shr_four y k a3 hk0
          have e2 := mul2_first x n (y / 2 ^ (k + 2).toNat)
          rw [← hk.val] at e2
          have q0 : 0 ≤ y / 2 ^ (k + 2).toNat := Int.ediv_nonneg a3 (Int.pow_nonneg (by omega))
          have q1 : y / 2 ^ k.toNat ≤ y := Int.ediv_le_self _ a3
          generalize y / 2 ^ (k + 2).toNat = J at *
          generalize hD : y / 2 ^ k.toNat = D at *
          have ha := and_three D (by omega) (by omega)
          obtain ⟨r0, r1⟩ := emod_bd (4 * o) n h1
          have E1 := mkHid e1
          have E2 := mkHid e2
          have HD := mkHid hD
          obtain ⟨d0, d1⟩ := emod_bd D 4 (by omega)
          clear e1 e2 hk
          generalize hd : D % 4 = d at *
          go_wp2_with fail
          have HA := mkHid ha
          have Hd := mkHid hd
          clear ha hd hD
          go_loop [9, 12] (fun u v => ∃ o' i : Int, u = .int .i64 o' ∧ v = .int .i64 i ∧ 0 ≤ i ∧ i ≤ d ∧ 0 ≤ o' ∧ o' < n ∧ Hid (o' = (4 * J + i) * x % n)) (fun _ v => (d - intOf v).toNat)
          case atStart => exact ⟨_, _, rfl, rfl, by omega, by omega, r0, r1, E2.out⟩
          case round =>
            obtain ⟨o', i, rfl, rfl, i0, i1, u0, u1, hi⟩ := hrel
            obtain ⟨t0, t1⟩ := emod_bd (o' + x) n h1
            by_cases hlt : i < d
            · go_wp2
              go_round
              case rel => exact ⟨_, _, rfl, rfl, by omega, by omega, by omega, by omega, mul2_add _ _ _ _ _ hi.out⟩
              case measure => simp [intOf]; omega
            · go_wp2
              go_round
              case rel => exact ⟨_, _, rfl, rfl, ⟨by omega, by omega, by omega, by omega, by have := kp.out; omega, by rw [Int.sub_add_cancel, HD.out, E1.out, hi.out, show i = d by omega]⟩⟩
              case measure => simp [intOf]; omega
        · go_wp2
          go_ret
          exact ⟨ret_int (by
            rw [HF.out]
            have hv := hk.val
            rw [show (k + 2).toNat = 0 by have := kp.out; omega, Int.pow_zero, Int.ediv_one] at hv
            exact hv), rfl⟩
end Go.Proofs.YtbllanmhbfnagaaDoor
namespace Go.Proofs.YtbllanmhbfnagaaDoor
open Go.RowKit
set_option maxHeartbeats 400000 in
theorem rpower_any (n a b : Int) (w : World) (hm : modB n = true) (b0 : 0 ≤ b) (b1 : b ≤ 9223372036854775807) :
    Calls Tryd.prog 85 #[.int .i64 n, .int .i64 a, .int .i64 b] w fun e w' => e = .returned (.int .i64 (powI n a b.toNat)) ∧ w = w' := by
  obtain ⟨h1, h2⟩ := modB_iff.1 hm
  have H := mkHid hm
  obtain ⟨a0, a1⟩ := emod_bd a n h1
  obtain ⟨o0, o1⟩ := emod_bd 1 n h1
  have st := mkHid (PowInv.start h1 a0 a1 b0 (by omega))
  clear hm
  go_enter Tryd.func85, Tryd.ntmps85
  go_wp2_with (go_at_call 79; refine (rresidue_any _ _ _ h1 h2).mono ?_; rintro e w' ⟨rfl, rfl⟩)
  go_loop [2, 7, 8] (fun y z x => ∃ x' y' z' : Int, x = .int .i64 x' ∧ y = .int .i64 y' ∧ z = .int .i64 z' ∧ PowInv n (a % n) b.toNat x' y' z' ∧ y' ≤ 9223372036854775807) (fun y _ _ => (intOf y).toNat)
  case atStart => exact ⟨_, _, _, rfl, rfl, rfl, st.out, b1⟩
  case round =>
    obtain ⟨x, y, z, rfl, rfl, rfl, hk, y2⟩ := hrel
    obtain ⟨x0, x1, y0, y1, z0, z1⟩ := (show 0 ≤ x ∧ x < n ∧ 0 ≤ y ∧ y ≤ 18446744073709551615 ∧ 0 ≤ z ∧ z < n from ⟨hk.a0, hk.a1, hk.b0, hk.b1, hk.o0, hk.o1⟩)
    have HK := mkHid hk; clear hk
    by_cases hy : 0 < y
    · by_cases hodd : y % 2 = 1
      · have HN : Hid (PowInv n (a % n) b.toNat (x * x % n) (y / 2) (z * x % n)) := mkHid (HK.out.odd h1 hodd)
        have c1 : (y % 2 == 1) = true := by rw [beq_iff_eq]; exact hodd
        clear hodd
        go_wp2_with fail
        refine (rmul_any n z x _).mono ?_
        rintro e w' ⟨rfl, rfl⟩
        go_wp2_with fail
        refine (rmul_any n x x _).mono ?_
        rintro e w' ⟨rfl, rfl⟩
        rw [mulI_of H.out, mulI_of H.out]
        go_wp2
        go_round
        case rel => exact ⟨_, _, _, rfl, rfl, rfl, HN.out, by omega⟩
        case measure => simp [intOf]; omega
      · have HN : Hid (PowInv n (a % n) b.toNat (x * x % n) (y / 2) z) := mkHid (HK.out.even h1 (by omega))
        have c1 : (y % 2 == 1) = false := by rw [beq_eq_false_iff_ne]; exact hodd
        clear hodd
        go_wp2_with fail
        refine (rmul_any n x x _).mono ?_
        rintro e w' ⟨rfl, rfl⟩
        rw [mulI_of H.out]
        go_wp2
        go_round
        case rel => exact ⟨_, _, _, rfl, rfl, rfl, HN.out, by omega⟩
        case measure => simp [intOf]; omega
    · go_wp2
      go_ret
      exact ⟨ret_int (by rw [HK.out.done (by omega), powI_mod]), rfl⟩
set_option maxHeartbeats 400000 in
theorem rinv_any (n a : Int) (w : World) :
    Calls Tryd.prog 21 #[.int .i64 n, .int .i64 a] w fun e w' => e = .returned (.tuple #[.int .i64 (invI n a), .bool (invB n a)]) ∧ w = w' := by
  cases hm : modB n
  · have H := mkHid hm
    go_enter Tryd.func21, Tryd.ntmps21
    go_wp2_with (go_at_call 78; refine (rvalid_no _ _ H.out).mono ?_; rintro e w' ⟨rfl, rfl⟩)
    go_ret2
    exact ⟨by simp [invI, invB, invO, hm], rfl⟩
  · obtain ⟨h1, h2⟩ := modB_iff.1 hm
    have H := mkHid hm
    obtain ⟨a1, a2⟩ := emod_bd a n h1
    obtain ⟨a3, a4⟩ := emod_bd 1 n h1
    have st := mkHid (InvInv.start (A := a) hm (Or.inr rfl))
    clear hm
    go_enter Tryd.func21, Tryd.ntmps21
    go_wp2_with (first | (go_at_call 78; refine (rvalid_yes _ _ H.out).mono ?_; rintro e w' ⟨rfl, rfl⟩) | (go_at_call 79; refine (rresidue_any _ _ _ h1 h2).mono ?_; rintro e w' ⟨rfl, rfl⟩))
    go_loop [6, 7, 8, 9] (fun r s x y => ∃ r' s' x' y' : Int, r = .int .i64 r' ∧ s = .int .i64 s' ∧ x = .int .i64 x' ∧ y = .int .i64 y' ∧ InvInv n a r' s' x' y') (fun _ s _ _ => (intOf s).toNat)
    case atStart => exact ⟨_, _, _, _, rfl, rfl, rfl, rfl, st.out⟩
    case round =>
      obtain ⟨r, s, x, y, rfl, rfl, rfl, rfl, hk⟩ := hrel
      obtain ⟨r0, r1, s0, s1, x0, x1, y0, y1⟩ := (show 1 ≤ r ∧ r < 2305843009213693952 ∧ 0 ≤ s ∧ s < 2305843009213693952 ∧ 0 ≤ x ∧ x < 2305843009213693952 ∧ 0 ≤ y ∧ y < 2305843009213693952 from ⟨hk.r0, hk.r1, hk.s0, hk.s1, hk.x0, hk.x1, hk.y0, hk.y1⟩)
      have HK := mkHid hk; clear hk
      by_cases hs : 0 < s
      · have HN : Hid (InvInv n a s (r - r / s * s) y (subI n x (mulI n (r / s) y))) := mkHid (HK.out.next H.out (by omega))
        have e := Int.ediv_mul_add_emod r s
        obtain ⟨b1, b2⟩ := emod_bd r s (by omega)
        have b3 : 0 ≤ r / s * s := Int.mul_nonneg (Int.ediv_nonneg (by omega) (by omega)) s0
        have b4 : r / s * s ≤ r := by omega
        have b5 : r - r / s * s < s := by omega
        clear e b1 b2
        have c1 : (s != 0) = true := by rw [bne_iff_ne]; omega
        go_wp2_with fail
        refine (rmul_any _ _ _ _).mono ?_
        rintro e w' ⟨rfl, rfl⟩
        go_wp2_with fail
        refine (rsub_any _ _ _ _).mono ?_
        rintro e w' ⟨rfl, rfl⟩
        go_wp2
        go_round
        case rel => exact ⟨_, _, _, _, rfl, rfl, rfl, rfl, HN.out⟩
        case measure => simp [intOf]; omega
      · have c1 : (s != 0) = false := by rw [bne_eq_false_iff_eq]; omega
        by_cases hr : r = 1
        · have c2 : (r != 1) = false := by rw [bne_eq_false_iff_eq]; omega
          have HV := mkHid (HK.out.yes H.out hr)
          clear hr
          go_wp2
          go_ret2
          exact ⟨by simp [invI, invB, HV.out], rfl⟩
        · have c2 : (r != 1) = true := by rw [bne_iff_ne]; omega
          have HV := mkHid (HK.out.no (by omega) hr)
          clear hr
          go_wp2
          go_ret2
          exact ⟨by simp [invI, invB, HV.out], rfl⟩
set_option maxHeartbeats 400000 in
theorem rpow_any (n a b : Int) (w : World) (hb0 : -9223372036854775808 ≤ b) (hb1 : b ≤ 9223372036854775807) :
    Calls Tryd.prog 31 #[.int .i64 n, .int .i64 a, .int .i64 b] w fun e w' => e = .returned (.int .i64 (powS n a b)) ∧ w = w' := by
  cases hm : modB n
  · have H := mkHid hm
    go_enter Tryd.func31, Tryd.ntmps31
    go_wp2_with (go_at_call 78; refine (rvalid_no _ _ H.out).mono ?_; rintro e w' ⟨rfl, rfl⟩)
    go_ret
    exact ⟨ret_int (by simp [powS, hm]), rfl⟩
  · have H := mkHid hm
    by_cases hb : 0 ≤ b
    · clear hm
      go_enter Tryd.func31, Tryd.ntmps31
      go_wp2_with (first | (go_at_call 78; refine (rvalid_yes _ _ H.out).mono ?_; rintro e w' ⟨rfl, rfl⟩) | (go_at_call 85; refine (rpower_any _ _ _ _ H.out (by omega) (by omega)).mono ?_; rintro e w' ⟨rfl, rfl⟩))
      go_ret
      exact ⟨ret_int (by unfold powS; rw [if_pos H.out, if_pos hb]), rfl⟩
    · cases hi : invO n a with
      | none =>
        have c1 := mkHid (show invB n a = false by simp [invB, hi])
        have HI := mkHid hi
        clear hm hi
        go_enter Tryd.func31, Tryd.ntmps31
        go_wp2_with (first | (go_at_call 78; refine (rvalid_yes _ _ H.out).mono ?_; rintro e w' ⟨rfl, rfl⟩) | (go_at_call 21; refine (rinv_any _ _ _).mono ?_; rintro e w' ⟨rfl, rfl⟩; rw [c1.out]))
        go_ret
        exact ⟨ret_int (by unfold powS; rw [if_pos H.out, if_neg (by omega), HI.out]), rfl⟩
      | some x =>
        have c1 := mkHid (show invB n a = true by simp [invB, hi])
        have c2 := mkHid (show invI n a = x by simp [invI, hi])
        have HI := mkHid hi
        clear hm hi
        go_enter Tryd.func31, Tryd.ntmps31
        go_wp2_with (first | (go_at_call 78; refine (rvalid_yes _ _ H.out).mono ?_; rintro e w' ⟨rfl, rfl⟩) | (go_at_call 21; refine (rinv_any _ _ _).mono ?_; rintro e w' ⟨rfl, rfl⟩; rw [c1.out, c2.out]) | (go_at_call 85; refine (rpower_any _ _ _ _ H.out (by omega) (by omega)).mono ?_; rintro e w' ⟨rfl, rfl⟩) | (go_at_call 29; refine (rmul_any _ _ _ _).mono ?_; rintro e w' ⟨rfl, rfl⟩))
        go_ret
        refine ⟨ret_int ?_, rfl⟩
        unfold powS
        rw [if_pos H.out, if_neg (by omega), HI.out, mulI_of H.out]
        simp only []
        unfold powI
        rw [mul_mod_r, show (-b).toNat = (-(b + 1)).toNat + 1 by omega, Int.pow_succ, Int.mul_comm]
end Go.Proofs.YtbllanmhbfnagaaDoor
namespace Go.Proofs.YtbllanmhbfnagaaDoor
open Go.RowKit
theorem and_30 (a : Int) : bits BinOp.and IntKind.i64 a 1073741823 = a % 1073741824 := by
  show IntKind.i64.wrap ((BitVec.ofInt 64 a &&& BitVec.ofInt 64 1073741823).toNat : Int) = _
  rw [BitVec.toNat_and, BitVec.toNat_ofInt, show (BitVec.ofInt 64 1073741823).toNat = 2 ^ 30 - 1 from rfl, Nat.and_two_pow_sub_one_eq_mod, IntKind.wrap_i64]
  simp only [Nat.reducePow]
  omega
theorem mask_mul (n a b : Int) (h : modB n = true) : ∃ X Y V : Int, bits BinOp.and IntKind.i64 a 1073741823 = X ∧ bits BinOp.and IntKind.i64 b 1073741823 = Y ∧ mulI n X Y = V ∧ 0 ≤ X ∧ X < 1073741824 ∧ 0 ≤ Y ∧ Y < 1073741824 ∧
    0 ≤ X * Y ∧ X * Y ≤ 1152921504606846976 ∧ (X * Y) % n = V := by
  refine ⟨a % 1073741824, b % 1073741824, _, and_30 a, and_30 b, rfl, by omega, by omega, by omega, by omega, ?_, ?_, ?_⟩
  · exact Int.mul_nonneg (by omega) (by omega)
  · have h1 : (a % 1073741824) * (b % 1073741824) ≤ 1073741824 * 1073741824 := Int.mul_le_mul (by omega) (by omega) (by omega) (by omega)
    omega
  · rw [mulI_of h]
end Go.Proofs.YtbllanmhbfnagaaDoor
