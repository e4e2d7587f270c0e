/- The reference's power, Inv, Pow (walks). -/
import Derived.Test.YtbllanmhbfnagaaDoorWF
set_option linter.unusedVariables false
set_option linter.unusedSimpArgs false
namespace Go.Proofs.YtbllanmhbfnagaaDoor
open Go.RowKit
set_option maxHeartbeats 400000 in
theorem rpower_any (n a b : Int) (w : World) (hm : modB n = true) (b0 : 0 ≤ b) (b1 : b ≤ 9223372036854775807) :
    Calls Tryd.prog 85 #[.int .i64 n, .int .i64 a, .int .i64 b] w fun e w' => e = .returned (.int .i64 (powI n a b.toNat)) ∧ w = w' := by
  obtain ⟨h1, h2⟩ := modB_iff.1 hm
  have H := mkHid hm
  obtain ⟨a0, a1⟩ := emod_bd a n h1
  obtain ⟨o0, o1⟩ := emod_bd 1 n h1
  have st := mkHid (PowInv.start h1 a0 a1 b0 (by omega))
  clear hm
  go_enter Tryd.func85, Tryd.ntmps85
  go_wp2_with (go_at_call 79; refine (rresidue_any _ _ _ h1 h2).mono ?_; rintro e w' ⟨rfl, rfl⟩)
  go_loop [2, 7, 8] (fun y z x => ∃ x' y' z' : Int, x = .int .i64 x' ∧ y = .int .i64 y' ∧ z = .int .i64 z' ∧ PowInv n (a % n) b.toNat x' y' z' ∧ y' ≤ 9223372036854775807) (fun y _ _ => (intOf y).toNat)
  case atStart => exact ⟨_, _, _, rfl, rfl, rfl, st.out, b1⟩
  case round =>
    obtain ⟨x, y, z, rfl, rfl, rfl, hk, y2⟩ := hrel
    obtain ⟨x0, x1, y0, y1, z0, z1⟩ := (show 0 ≤ x ∧ x < n ∧ 0 ≤ y ∧ y ≤ 18446744073709551615 ∧ 0 ≤ z ∧ z < n from ⟨hk.a0, hk.a1, hk.b0, hk.b1, hk.o0, hk.o1⟩)
    have HK := mkHid hk; clear hk
    by_cases hy : 0 < y
    · by_cases hodd : y % 2 = 1
      · have HN : Hid (PowInv n (a % n) b.toNat (x * x % n) (y / 2) (z * x % n)) := mkHid (HK.out.odd h1 hodd)
        have c1 : (y % 2 == 1) = true := by rw [beq_iff_eq]; exact hodd
        clear hodd
        go_wp2_with fail
        refine (rmul_any n z x _).mono ?_
        rintro e w' ⟨rfl, rfl⟩
        go_wp2_with fail
        refine (rmul_any n x x _).mono ?_
        rintro e w' ⟨rfl, rfl⟩
        rw [mulI_of H.out, mulI_of H.out]
        go_wp2
        go_round
        case rel => exact ⟨_, _, _, rfl, rfl, rfl, HN.out, by omega⟩
        case measure => simp [intOf]; omega
      · have HN : Hid (PowInv n (a % n) b.toNat (x * x % n) (y / 2) z) := mkHid (HK.out.even h1 (by omega))
        have c1 : (y % 2 == 1) = false := by rw [beq_eq_false_iff_ne]; exact hodd
        clear hodd
        go_wp2_with fail
        refine (rmul_any n x x _).mono ?_
        rintro e w' ⟨rfl, rfl⟩
        rw [mulI_of H.out]
        go_wp2
        go_round
        case rel => exact ⟨_, _, _, rfl, rfl, rfl, HN.out, by omega⟩
        case measure => simp [intOf]; omega
    · go_wp2
      go_ret
      exact ⟨ret_int (by rw [HK.out.done (by omega), powI_mod]), rfl⟩
set_option maxHeartbeats 400000 in
theorem rinv_any (n a : Int) (w : World) :
    Calls Tryd.prog 21 #[.int .i64 n, .int .i64 a] w fun e w' => e = .returned (.tuple #[.int .i64 (invI n a), .bool (invB n a)]) ∧ w = w' := by
  cases hm : modB n
  · have H := mkHid hm
    go_enter Tryd.func21, Tryd.ntmps21
    go_wp2_with (go_at_call 78; refine (rvalid_no _ _ H.out).mono ?_; rintro e w' ⟨rfl, rfl⟩)
    go_ret2
    exact ⟨by simp [invI, invB, invO, hm], rfl⟩
  · obtain ⟨h1, h2⟩ := modB_iff.1 hm
    have H := mkHid hm
    obtain ⟨a1, a2⟩ := emod_bd a n h1
    obtain ⟨a3, a4⟩ := emod_bd 1 n h1
    have st := mkHid (InvInv.start (A := a) hm (Or.inr rfl))
    clear hm
    go_enter Tryd.func21, Tryd.ntmps21
    go_wp2_with (first | (go_at_call 78; refine (rvalid_yes _ _ H.out).mono ?_; rintro e w' ⟨rfl, rfl⟩) | (go_at_call 79; refine (rresidue_any _ _ _ h1 h2).mono ?_; rintro e w' ⟨rfl, rfl⟩))
    go_loop [6, 7, 8, 9] (fun r s x y => ∃ r' s' x' y' : Int, r = .int .i64 r' ∧ s = .int .i64 s' ∧ x = .int .i64 x' ∧ y = .int .i64 y' ∧ InvInv n a r' s' x' y') (fun _ s _ _ => (intOf s).toNat)
    case atStart => exact ⟨_, _, _, _, rfl, rfl, rfl, rfl, st.out⟩
    case round =>
      obtain ⟨r, s, x, y, rfl, rfl, rfl, rfl, hk⟩ := hrel
      obtain ⟨r0, r1, s0, s1, x0, x1, y0, y1⟩ := (show 1 ≤ r ∧ r < 2305843009213693952 ∧ 0 ≤ s ∧ s < 2305843009213693952 ∧ 0 ≤ x ∧ x < 2305843009213693952 ∧ 0 ≤ y ∧ y < 2305843009213693952 from ⟨hk.r0, hk.r1, hk.s0, hk.s1, hk.x0, hk.x1, hk.y0, hk.y1⟩)
      have HK := mkHid hk; clear hk
      by_cases hs : 0 < s
      · have HN : Hid (InvInv n a s (r - r / s * s) y (subI n x (mulI n (r / s) y))) := mkHid (HK.out.next H.out (by omega))
        have e := Int.ediv_mul_add_emod r s
        obtain ⟨b1, b2⟩ := emod_bd r s (by omega)
        have b3 : 0 ≤ r / s * s := Int.mul_nonneg (Int.ediv_nonneg (by omega) (by omega)) s0
        have b4 : r / s * s ≤ r := by omega
        have b5 : r - r / s * s < s := by omega
        clear e b1 b2
        have c1 : (s != 0) = true := by rw [bne_iff_ne]; omega
        go_wp2_with fail
        refine (rmul_any _ _ _ _).mono ?_
        rintro e w' ⟨rfl, rfl⟩
        go_wp2_with fail
        refine (rsub_any _ _ _ _).mono ?_
        rintro e w' ⟨rfl, rfl⟩
        go_wp2
        go_round
        case rel => exact ⟨_, _, _, _, rfl, rfl, rfl, rfl, HN.out⟩
        case measure => simp [intOf]; omega
      · have c1 : (s != 0) = false := by rw [bne_eq_false_iff_eq]; omega
        by_cases hr : r = 1
        · have c2 : (r != 1) = false := by rw [bne_eq_false_iff_eq]; omega
          have HV := mkHid (HK.out.yes H.out hr)
          clear hr
          go_wp2
          go_ret2
          exact ⟨by simp [invI, invB, HV.out], rfl⟩
        · have c2 : (r != 1) = true := by rw [bne_iff_ne]; omega
          have HV := mkHid (HK.out.no (by omega) hr)
          clear hr
          go_wp2
          go_ret2
          exact ⟨by simp [invI, invB, HV.out], rfl⟩
set_option maxHeartbeats 400000 in
theorem rpow_any (n a b : Int) (w : World) (hb0 : -9223372036854775808 ≤ b) (hb1 : b ≤ 9223372036854775807) :
    Calls Tryd.prog 31 #[.int .i64 n, .int .i64 a, .int .i64 b] w fun e w' => e = .returned (.int .i64 (powS n a b)) ∧ w = w' := by
  cases hm : modB n
  · have H := mkHid hm
    go_enter Tryd.func31, Tryd.ntmps31
    go_wp2_with (go_at_call 78; refine (rvalid_no _ _ H.out).mono ?_; rintro e w' ⟨rfl, rfl⟩)
    go_ret
    exact ⟨ret_int (by simp [powS, hm]), rfl⟩
  · have H := mkHid hm
    by_cases hb : 0 ≤ b
    · clear hm
      go_enter Tryd.func31, Tryd.ntmps31
      go_wp2_with (first | (go_at_call 78; refine (rvalid_yes _ _ H.out).mono ?_; rintro e w' ⟨rfl, rfl⟩) | (go_at_call 85; refine (rpower_any _ _ _ _ H.out (by omega) (by omega)).mono ?_; rintro e w' ⟨rfl, rfl⟩))
      go_ret
      exact ⟨ret_int (by unfold powS; rw [if_pos H.out, if_pos hb]), rfl⟩
    · cases hi : invO n a with
      | none =>
        have c1 := mkHid (show invB n a = false by simp [invB, hi])
        have HI := mkHid hi
        clear hm hi
        go_enter Tryd.func31, Tryd.ntmps31
        go_wp2_with (first | (go_at_call 78; refine (rvalid_yes _ _ H.out).mono ?_; rintro e w' ⟨rfl, rfl⟩) | (go_at_call 21; refine (rinv_any _ _ _).mono ?_; rintro e w' ⟨rfl, rfl⟩; rw [c1.out]))
        go_ret
        exact ⟨ret_int (by unfold powS; rw [if_pos H.out, if_neg (by omega), HI.out]), rfl⟩
      | some x =>
        have c1 := mkHid (show invB n a = true by simp [invB, hi])
        have c2 := mkHid (show invI n a = x by simp [invI, hi])
        have HI := mkHid hi
        clear hm hi
        go_enter Tryd.func31, Tryd.ntmps31
        go_wp2_with (first | (go_at_call 78; refine (rvalid_yes _ _ H.out).mono ?_; rintro e w' ⟨rfl, rfl⟩) | (go_at_call 21; refine (rinv_any _ _ _).mono ?_; rintro e w' ⟨rfl, rfl⟩; rw [c1.out, c2.out]) | (go_at_call 85; refine (rpower_any _ _ _ _ H.out (by omega) (by omega)).mono ?_; rintro e w' ⟨rfl, rfl⟩) | (go_at_call 29; refine (rmul_any _ _ _ _).mono ?_; rintro e w' ⟨rfl, rfl⟩))
        go_ret
        refine ⟨ret_int ?_, rfl⟩
        unfold powS
        rw [if_pos H.out, if_neg (by omega), HI.out, mulI_of H.out]
        simp only []
        unfold powI
        rw [mul_mod_r, show (-b).toNat = (-(b + 1)).toNat + 1 by omega, Int.pow_succ, Int.mul_comm]
end Go.Proofs.YtbllanmhbfnagaaDoor
