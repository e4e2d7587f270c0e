/- product, power, Mul, Sub, Inv, Pow of field (walks). -/
import Derived.Test.YtbllanmhbfnagaaDoorWC
import Derived.Test.YtbllanmhbfnagaaDoorF1
set_option linter.unusedVariables false
set_option linter.unusedSimpArgs false
namespace Go.Proofs.YtbllanmhbfnagaaDoor
open Go.RowKit

set_option maxHeartbeats 400000 in
theorem product_any (n a b : Int) (w : World) (h1 : 1 ≤ n) (h2 : n < 2305843009213693952) (a0 : 0 ≤ a) (a1 : a < n) (b0 : 0 ≤ b) (b1 : b < n) :
    Calls Tryd.prog 83 #[.int .i64 n, .int .u64 a, .int .u64 b] w fun e w' => e = .returned (.int .u64 (a * b % n)) ∧ Drew w w' := by
  obtain ⟨x, rfl⟩ := Int.eq_ofNat_of_zero_le a0
  obtain ⟨y, rfl⟩ := Int.eq_ofNat_of_zero_le b0
  have M := mkHid (Tryd.bits_Mul64 x y (by omega) (by omega))
  have hxy : x * y ≤ 5316911983139663491615228241121378304 := by
    have := Nat.mul_le_mul (show x ≤ 2305843009213693952 by omega) (show y ≤ 2305843009213693952 by omega)
    simpa using this
  have hxn : x * y < n.toNat * 2305843009213693952 := by
    rcases Nat.eq_zero_or_pos y with h | h
    · subst h; omega
    · have h3 := Nat.mul_lt_mul_of_pos_right (show x < n.toNat by omega) h
      have h4 := Nat.mul_le_mul_left n.toNat (show y ≤ 2305843009213693952 by omega)
      omega
  go_enter Tryd.func83, Tryd.ntmps83
  go_wp2_with fail
  refine (M.out _).mono ?_
  rintro e w' ⟨rfl, rfl⟩
  go_wp2_with fail
  generalize hp : x * y = p at *
  refine (rem64_any _ _ _ _ (by omega) (by omega) (by omega) (by omega) (by omega)).mono ?_
  rintro e w' ⟨rfl, m, rfl⟩
  go_wp2
  go_ret
  refine ⟨ret_int ?_, Drew.of _ _⟩
  have : ((x : Int) * y) = (p : Int) := by exact_mod_cast hp
  rw [this]
  congr 1
  omega

set_option maxHeartbeats 400000 in
theorem sub_any (n a b : Int) (w : World) :
    Calls Tryd.prog 26 #[.int .i64 n, .int .i64 a, .int .i64 b] w fun e w' => e = .returned (.int .i64 (subI n a b)) ∧ w = w' := by
  cases hm : modB n
  · have H := mkHid hm
    go_enter Tryd.func26, Tryd.ntmps26
    go_wp2_with (go_at_call 76; refine (valid_no _ _ H.out).mono ?_; rintro e w' ⟨rfl, rfl⟩)
    go_ret
    exact ⟨ret_int (by simp [subI, hm]), rfl⟩
  · obtain ⟨h1, h2⟩ := modB_iff.1 hm
    have H := mkHid hm
    obtain ⟨a1, a2⟩ := emod_bd a n h1
    obtain ⟨a5, a6⟩ := emod_bd (a % n + n - b) n h1
    obtain ⟨a3, a4⟩ := emod_bd b n h1
    clear hm
    go_enter Tryd.func26, Tryd.ntmps26
    go_wp2_with (first | (go_at_call 76; refine (valid_yes _ _ H.out).mono ?_; rintro e w' ⟨rfl, rfl⟩) | (go_at_call 77; refine (residue_any _ _ _ h1 h2).mono ?_; rintro e w' ⟨rfl, rfl⟩))
    go_ret
    exact ⟨ret_int (by unfold subI; rw [if_pos H.out, sub_mod']), rfl⟩
set_option maxHeartbeats 400000 in
theorem mul_any (n a b : Int) (w : World) :
    Calls Tryd.prog 28 #[.int .i64 n, .int .i64 a, .int .i64 b] w fun e w' => e = .returned (.int .i64 (mulI n a b)) ∧ Drew w w' := by
  cases hm : modB n
  · have H := mkHid hm
    go_enter Tryd.func28, Tryd.ntmps28
    go_wp2_with (go_at_call 76; refine (valid_no _ _ H.out).mono ?_; rintro e w' ⟨rfl, rfl⟩)
    go_ret
    exact ⟨ret_int (by simp [mulI, hm]), Drew.refl _⟩
  · obtain ⟨h1, h2⟩ := modB_iff.1 hm
    have H := mkHid hm
    obtain ⟨a1, a2⟩ := emod_bd a n h1
    obtain ⟨a3, a4⟩ := emod_bd b n h1
    obtain ⟨a5, a6⟩ := emod_bd (a % n * (b % n)) n h1
    clear hm
    go_enter Tryd.func28, Tryd.ntmps28
    go_wp2_with (first | (go_at_call 76; refine (valid_yes _ _ H.out).mono ?_; rintro e w' ⟨rfl, rfl⟩) | (go_at_call 77; refine (residue_any _ _ _ h1 h2).mono ?_; rintro e w' ⟨rfl, rfl⟩) | (go_at_call 83; refine (product_any _ _ _ _ h1 h2 a1 a2 a3 a4).mono ?_; rintro e w' ⟨rfl, m, rfl⟩))
    go_ret
    refine ⟨ret_int ?_, Drew.of _ _⟩
    unfold mulI
    rw [if_pos H.out, mul_mod_l, mul_mod_r]
theorem and_one (b : Int) (h0 : 0 ≤ b) (h1 : b ≤ 18446744073709551615) : bits BinOp.and IntKind.u64 b 1 = b % 2 := by
  rw [u64_and _ _ h0 (by omega) (by omega) (by omega), show (1 : Int).toNat = 1 from rfl, Nat.and_one_is_mod]
  omega
set_option maxHeartbeats 400000 in
theorem power_any (n a b : Int) (w : World) (h1 : 1 ≤ n) (h2 : n < 2305843009213693952) (a0 : 0 ≤ a) (a1 : a < n) (b0 : 0 ≤ b) (b1 : b ≤ 18446744073709551615) :
    Calls Tryd.prog 84 #[.int .i64 n, .int .u64 a, .int .u64 b] w fun e w' => e = .returned (.int .u64 (powI n a b.toNat)) ∧ Drew w w' := by
  obtain ⟨o0, o1⟩ := emod_bd 1 n h1
  have st := mkHid (PowInv.start h1 a0 a1 b0 b1)
  go_enter Tryd.func84, Tryd.ntmps84
  go_wp2_with fail
  go_loopw [1, 2, 7] (fun x y z wr => ∃ x' y' z' : Int, x = .int .u64 x' ∧ y = .int .u64 y' ∧ z = .int .u64 z' ∧ PowInv n a b.toNat x' y' z' ∧ Drew w wr) (fun _ y _ _ => (intOf y).toNat)
  case atStart => exact ⟨_, _, _, rfl, rfl, rfl, st.out, Drew.refl _⟩
  case round =>
    obtain ⟨x, y, z, rfl, rfl, rfl, hk, hd⟩ := hrel
    obtain ⟨x0, x1, y0, y1, z0, z1⟩ := (show 0 ≤ x ∧ x < n ∧ 0 ≤ y ∧ y ≤ 18446744073709551615 ∧ 0 ≤ z ∧ z < n from ⟨hk.a0, hk.a1, hk.b0, hk.b1, hk.o0, hk.o1⟩)
    obtain ⟨m, rfl⟩ := hd
    have HK := mkHid hk; clear hk
    by_cases hy : 0 < y
    · obtain ⟨p0, p1⟩ := emod_bd (x * x) n h1
      obtain ⟨p2, p3⟩ := emod_bd (z * x) n h1
      have ha := and_one y y0 y1
      by_cases hodd : y % 2 = 1
      · have HN : Hid (PowInv n a b.toNat (x * x % n) (y / 2) (z * x % n)) := mkHid (HK.out.odd h1 hodd)
        go_wp2_with fail
        refine (product_any n z x _ h1 h2 z0 z1 x0 x1).mono ?_
        rintro e w' ⟨rfl, m, rfl⟩
        go_wp2_with fail
        refine (product_any n x x _ h1 h2 x0 x1 x0 x1).mono ?_
        rintro e w' ⟨rfl, m, rfl⟩
        go_wp2
        go_roundw
        case rel => exact ⟨_, _, _, rfl, rfl, rfl, HN.out, Drew.of _ _⟩
        case measure => simp [intOf]; omega
      · have HN : Hid (PowInv n a b.toNat (x * x % n) (y / 2) z) := mkHid (HK.out.even h1 (by omega))
        go_wp2_with (go_at_call 83; (refine (product_any n x x _ h1 h2 x0 x1 x0 x1).mono ?_; rintro e w' ⟨rfl, m, rfl⟩))
        go_roundw
        case rel => exact ⟨_, _, _, rfl, rfl, rfl, HN.out, Drew.of _ _⟩
        case measure => simp [intOf]; omega
    · go_wp2
      go_ret
      exact ⟨ret_int (HK.out.done (by omega)), Drew.of _ _⟩
end Go.Proofs.YtbllanmhbfnagaaDoor
