/- The reference's Add, Sub, Mul, power, Inv, Pow (walks). -/
import Derived.Test.YtbllanmhbfnagaaDoorWE
set_option linter.unusedVariables false
set_option linter.unusedSimpArgs false
namespace Go.Proofs.YtbllanmhbfnagaaDoor
open Go.RowKit

set_option maxHeartbeats 400000 in
theorem radd_any (n a b : Int) (w : World) :
    Calls Tryd.prog 25 #[.int .i64 n, .int .i64 a, .int .i64 b] w fun e w' => e = .returned (.int .i64 (addI n a b)) ∧ w = w' := by
  cases hm : modB n
  · have H := mkHid hm
    go_enter Tryd.func25, Tryd.ntmps25
    go_wp2_with (go_at_call 78; refine (rvalid_no _ _ H.out).mono ?_; rintro e w' ⟨rfl, rfl⟩)
    go_ret
    exact ⟨ret_int (by simp [addI, hm]), rfl⟩
  · obtain ⟨h1, h2⟩ := modB_iff.1 hm
    have H := mkHid hm
    obtain ⟨a1, a2⟩ := emod_bd a n h1
    obtain ⟨a3, a4⟩ := emod_bd b n h1
    obtain ⟨a5, a6⟩ := emod_bd (a + b) n h1
    clear hm
    go_enter Tryd.func25, Tryd.ntmps25
    go_wp2_with (first | (go_at_call 78; refine (rvalid_yes _ _ H.out).mono ?_; rintro e w' ⟨rfl, rfl⟩) | (go_at_call 79; refine (rresidue_any _ _ _ h1 h2).mono ?_; rintro e w' ⟨rfl, rfl⟩))
    go_ret
    exact ⟨ret_int (by unfold addI; rw [if_pos H.out, ← Int.add_emod]), rfl⟩
set_option maxHeartbeats 400000 in
theorem rsub_any (n a b : Int) (w : World) :
    Calls Tryd.prog 27 #[.int .i64 n, .int .i64 a, .int .i64 b] w fun e w' => e = .returned (.int .i64 (subI n a b)) ∧ w = w' := by
  cases hm : modB n
  · have H := mkHid hm
    go_enter Tryd.func27, Tryd.ntmps27
    go_wp2_with (go_at_call 78; refine (rvalid_no _ _ H.out).mono ?_; rintro e w' ⟨rfl, rfl⟩)
    go_ret
    exact ⟨ret_int (by simp [subI, hm]), rfl⟩
  · obtain ⟨h1, h2⟩ := modB_iff.1 hm
    have H := mkHid hm
    obtain ⟨a1, a2⟩ := emod_bd a n h1
    obtain ⟨a3, a4⟩ := emod_bd b n h1
    obtain ⟨a5, a6⟩ := emod_bd (a % n + n - b) n h1
    clear hm
    go_enter Tryd.func27, Tryd.ntmps27
    go_wp2_with (first | (go_at_call 78; refine (rvalid_yes _ _ H.out).mono ?_; rintro e w' ⟨rfl, rfl⟩) | (go_at_call 79; refine (rresidue_any _ _ _ h1 h2).mono ?_; rintro e w' ⟨rfl, rfl⟩))
    go_ret
    exact ⟨ret_int (by unfold subI; rw [if_pos H.out, sub_mod]), rfl⟩
/-- What holds at the head of Mul's outer loop. -/
structure MulInv (n x y k o : Int) : Prop where
  k0 : -2 ≤ k
  k1 : k ≤ 60
  o0 : 0 ≤ o
  o1 : o < n
  par : k % 2 = 0
  val : o = y / 2 ^ (k + 2).toNat * x % n
set_option maxHeartbeats 1000000 in
theorem rmul_any (n a b : Int) (w : World) :
    Calls Tryd.prog 29 #[.int .i64 n, .int .i64 a, .int .i64 b] w fun e w' => e = .returned (.int .i64 (mulI n a b)) ∧ w = w' := by
  cases hm : modB n
  · have H := mkHid hm
    go_enter Tryd.func29, Tryd.ntmps29
    go_wp2_with (go_at_call 78; refine (rvalid_no _ _ H.out).mono ?_; rintro e w' ⟨rfl, rfl⟩)
    go_ret
    exact ⟨ret_int (by simp [mulI, hm]), rfl⟩
  · obtain ⟨h1, h2⟩ := modB_iff.1 hm
    have H := mkHid hm
    obtain ⟨a1, a2⟩ := emod_bd a n h1
    obtain ⟨a3, a4⟩ := emod_bd b n h1
    have HF : Hid (mulI n a b = b % n * (a % n) % n) := mkHid (by unfold mulI; rw [if_pos hm, mul_mod_l, mul_mod_r, Int.mul_comm])
    have HG : Hid (mulI n a b = a % n * (b % n) % n) := mkHid (by unfold mulI; rw [if_pos hm, mul_mod_l, mul_mod_r])
    clear hm
    by_cases hs : n ≤ 2147483648
    · obtain ⟨p1, p2⟩ : 0 ≤ a % n * (b % n) ∧ a % n * (b % n) ≤ 4611686018427387904 := by
        refine ⟨Int.mul_nonneg a1 a3, ?_⟩
        have := Int.mul_le_mul (show a % n ≤ 2147483648 by omega) (show b % n ≤ 2147483648 by omega) a3 (by omega)
        omega
      obtain ⟨p3, p4⟩ := emod_bd (a % n * (b % n)) n h1
      go_enter Tryd.func29, Tryd.ntmps29
      go_wp2_with (first | (go_at_call 78; refine (rvalid_yes _ _ H.out).mono ?_; rintro e w' ⟨rfl, rfl⟩) | (go_at_call 79; refine (rresidue_any _ _ _ h1 h2).mono ?_; rintro e w' ⟨rfl, rfl⟩))
      go_ret
      refine ⟨ret_int ?_, rfl⟩
      rw [HG.out, mul_mod_l, mul_mod_r]
    · go_enter Tryd.func29, Tryd.ntmps29
      go_wp2_with (first | (go_at_call 78; refine (rvalid_yes _ _ H.out).mono ?_; rintro e w' ⟨rfl, rfl⟩) | (go_at_call 79; refine (rresidue_any _ _ _ h1 h2).mono ?_; rintro e w' ⟨rfl, rfl⟩))
      generalize a % n = x at *
      generalize b % n = y at *
      have hy0 := shr_top y a3 (by omega)
      go_loop [9, 10] (fun u v => ∃ o k : Int, u = .int .i64 o ∧ v = .int .i64 k ∧ MulInv n x y k o) (fun _ v => (intOf v + 2).toNat)
      case atStart => exact ⟨0, 60, rfl, rfl, ⟨by omega, by omega, by omega, by omega, by omega, by rw [hy0]; simp⟩⟩
      case round =>
        clear hy0
        obtain ⟨o, k, rfl, rfl, hk⟩ := hrel
        obtain ⟨k0, k1, o0, o1⟩ := (show -2 ≤ k ∧ k ≤ 60 ∧ 0 ≤ o ∧ o < n from ⟨hk.k0, hk.k1, hk.o0, hk.o1⟩)
        have kp := mkHid hk.par
        by_cases hk0 : 0 ≤ k
        · have e1 := shr_four y k a3 hk0
          have e2 := mul2_first x n (y / 2 ^ (k + 2).toNat)
          rw [← hk.val] at e2
          have q0 : 0 ≤ y / 2 ^ (k + 2).toNat := Int.ediv_nonneg a3 (Int.pow_nonneg (by omega))
          have q1 : y / 2 ^ k.toNat ≤ y := Int.ediv_le_self _ a3
          generalize y / 2 ^ (k + 2).toNat = J at *
          generalize hD : y / 2 ^ k.toNat = D at *
          have ha := and_three D (by omega) (by omega)
          obtain ⟨r0, r1⟩ := emod_bd (4 * o) n h1
          have E1 := mkHid e1
          have E2 := mkHid e2
          have HD := mkHid hD
          obtain ⟨d0, d1⟩ := emod_bd D 4 (by omega)
          clear e1 e2 hk
          generalize hd : D % 4 = d at *
          go_wp2_with fail
          have HA := mkHid ha
          have Hd := mkHid hd
          clear ha hd hD
          go_loop [9, 12] (fun u v => ∃ o' i : Int, u = .int .i64 o' ∧ v = .int .i64 i ∧ 0 ≤ i ∧ i ≤ d ∧ 0 ≤ o' ∧ o' < n ∧ Hid (o' = (4 * J + i) * x % n)) (fun _ v => (d - intOf v).toNat)
          case atStart => exact ⟨_, _, rfl, rfl, by omega, by omega, r0, r1, E2.out⟩
          case round =>
            obtain ⟨o', i, rfl, rfl, i0, i1, u0, u1, hi⟩ := hrel
            obtain ⟨t0, t1⟩ := emod_bd (o' + x) n h1
            by_cases hlt : i < d
            · go_wp2
              go_round
              case rel => exact ⟨_, _, rfl, rfl, by omega, by omega, by omega, by omega, mul2_add _ _ _ _ _ hi.out⟩
              case measure => simp [intOf]; omega
            · go_wp2
              go_round
              case rel => exact ⟨_, _, rfl, rfl, ⟨by omega, by omega, by omega, by omega, by have := kp.out; omega, by rw [Int.sub_add_cancel, HD.out, E1.out, hi.out, show i = d by omega]⟩⟩
              case measure => simp [intOf]; omega
        · go_wp2
          go_ret
          exact ⟨ret_int (by
            rw [HF.out]
            have hv := hk.val
            rw [show (k + 2).toNat = 0 by have := kp.out; omega, Int.pow_zero, Int.ediv_one] at hv
            exact hv), rfl⟩
end Go.Proofs.YtbllanmhbfnagaaDoor
