/- Inv, Pow of field; the reference's Add, Sub, Mul, power, Inv, Pow (walks). -/
import Derived.Test.YtbllanmhbfnagaaDoorWD
set_option linter.unusedVariables false
set_option linter.unusedSimpArgs false
namespace Go.Proofs.YtbllanmhbfnagaaDoor
open Go.RowKit

theorem and_three (b : Int) (h0 : 0 ≤ b) (h1 : b ≤ 9223372036854775807) : bits BinOp.and IntKind.i64 b 3 = b % 4 := by
  obtain ⟨B, rfl⟩ := Int.eq_ofNat_of_zero_le h0
  show IntKind.i64.wrap ((BitVec.ofInt 64 (B : Int) &&& BitVec.ofInt 64 ((3 : Nat) : Int)).toNat : Int) = _
  rw [BitVec.toNat_and, ofInt_u64 B (by omega), ofInt_u64 3 (by omega), nat_mask2, IntKind.wrap_i64]
  omega

set_option maxHeartbeats 400000 in
theorem inv_any (n a : Int) (w : World) :
    Calls Tryd.prog 20 #[.int .i64 n, .int .i64 a] w fun e w' => e = .returned (.tuple #[.int .i64 (invI n a), .bool (invB n a)]) ∧ Drew w w' := by
  cases hm : modB n
  · have H := mkHid hm
    go_enter Tryd.func20, Tryd.ntmps20
    go_wp2_with (go_at_call 76; refine (valid_no _ _ H.out).mono ?_; rintro e w' ⟨rfl, rfl⟩)
    go_ret2
    exact ⟨by simp [invI, invB, invO, hm], Drew.refl _⟩
  · obtain ⟨h1, h2⟩ := modB_iff.1 hm
    have H := mkHid hm
    obtain ⟨a1, a2⟩ := emod_bd a n h1
    have st := mkHid (InvInv.start (A := a) hm (Or.inl rfl))
    clear hm
    go_enter Tryd.func20, Tryd.ntmps20
    go_wp2_with (first | (go_at_call 76; refine (valid_yes _ _ H.out).mono ?_; rintro e w' ⟨rfl, rfl⟩) | (go_at_call 77; refine (residue_any _ _ _ h1 h2).mono ?_; rintro e w' ⟨rfl, rfl⟩))
    go_loopw [6, 7, 8, 9] (fun r s x y wr => ∃ r' s' x' y' : Int, r = .int .i64 r' ∧ s = .int .i64 s' ∧ x = .int .i64 x' ∧ y = .int .i64 y' ∧ InvInv n a r' s' x' y' ∧ Drew w wr) (fun _ s _ _ _ => (intOf s).toNat)
    case atStart => exact ⟨_, _, _, _, rfl, rfl, rfl, rfl, st.out, Drew.refl _⟩
    case round =>
      obtain ⟨r, s, x, y, rfl, rfl, rfl, rfl, hk, hd⟩ := hrel
      obtain ⟨m, rfl⟩ := hd
      obtain ⟨r0, r1, s0, s1, x0, x1, y0, y1⟩ := (show 1 ≤ r ∧ r < 2305843009213693952 ∧ 0 ≤ s ∧ s < 2305843009213693952 ∧ 0 ≤ x ∧ x < 2305843009213693952 ∧ 0 ≤ y ∧ y < 2305843009213693952 from ⟨hk.r0, hk.r1, hk.s0, hk.s1, hk.x0, hk.x1, hk.y0, hk.y1⟩)
      have HK := mkHid hk; clear hk
      by_cases hs : 0 < s
      · have HN : Hid (InvInv n a s (r - r / s * s) y (subI n x (mulI n (r / s) y))) := mkHid (HK.out.next H.out (by omega))
        have e := Int.ediv_mul_add_emod r s
        obtain ⟨b1, b2⟩ := emod_bd r s (by omega)
        have b3 : 0 ≤ r / s * s := Int.mul_nonneg (Int.ediv_nonneg (by omega) (by omega)) s0
        have b4 : r / s * s ≤ r := by omega
        have b5 : r - r / s * s < s := by omega
        clear e b1 b2
        have c1 : (s != 0) = true := by rw [bne_iff_ne]; omega
        go_wp2_with fail
        refine (mul_any _ _ _ _).mono ?_
        rintro e w' ⟨rfl, m, rfl⟩
        go_wp2_with fail
        refine (sub_any _ _ _ _).mono ?_
        rintro e w' ⟨rfl, rfl⟩
        go_wp2
        go_roundw
        case rel => exact ⟨_, _, _, _, rfl, rfl, rfl, rfl, HN.out, Drew.of _ _⟩
        case measure => simp [intOf]; omega
      · have c1 : (s != 0) = false := by rw [bne_eq_false_iff_eq]; omega
        by_cases hr : r = 1
        · have c2 : (r != 1) = false := by rw [bne_eq_false_iff_eq]; omega
          have HV := mkHid (HK.out.yes H.out hr)
          clear hr
          go_wp2
          go_ret2
          exact ⟨by simp [invI, invB, HV.out], Drew.of _ _⟩
        · have c2 : (r != 1) = true := by rw [bne_iff_ne]; omega
          have HV := mkHid (HK.out.no (by omega) hr)
          clear hr
          go_wp2
          go_ret2
          exact ⟨by simp [invI, invB, HV.out], Drew.of _ _⟩
set_option maxHeartbeats 400000 in
theorem pow_any (n a b : Int) (w : World) (hb0 : -9223372036854775808 ≤ b) (hb1 : b ≤ 9223372036854775807) :
    Calls Tryd.prog 30 #[.int .i64 n, .int .i64 a, .int .i64 b] w fun e w' => e = .returned (.int .i64 (powS n a b)) ∧ Drew w w' := by
  cases hm : modB n
  · have H := mkHid hm
    go_enter Tryd.func30, Tryd.ntmps30
    go_wp2_with (go_at_call 76; refine (valid_no _ _ H.out).mono ?_; rintro e w' ⟨rfl, rfl⟩)
    go_ret
    exact ⟨ret_int (by simp [powS, hm]), Drew.refl _⟩
  · obtain ⟨h1, h2⟩ := modB_iff.1 hm
    have H := mkHid hm
    obtain ⟨a1, a2⟩ := emod_bd a n h1
    by_cases hb : 0 ≤ b
    · obtain ⟨p0, p1⟩ := powI_bd h1 (a % n) b.toNat
      clear hm
      go_enter Tryd.func30, Tryd.ntmps30
      go_wp2_with (first | (go_at_call 76; refine (valid_yes _ _ H.out).mono ?_; rintro e w' ⟨rfl, rfl⟩) | (go_at_call 77; refine (residue_any _ _ _ h1 h2).mono ?_; rintro e w' ⟨rfl, rfl⟩) | (go_at_call 84; refine (power_any _ _ _ _ h1 h2 (by omega) (by omega) (by omega) (by omega)).mono ?_; rintro e w' ⟨rfl, m, rfl⟩))
      go_ret
      exact ⟨ret_int (by unfold powS; rw [if_pos H.out, if_pos hb, powI_mod]), Drew.of _ _⟩
    · cases hi : invO n a with
      | none =>
        have c1 := mkHid (show invB n a = false by simp [invB, hi])
        have HI := mkHid hi
        clear hm hi
        go_enter Tryd.func30, Tryd.ntmps30
        go_wp2_with (first | (go_at_call 76; refine (valid_yes _ _ H.out).mono ?_; rintro e w' ⟨rfl, rfl⟩) | (go_at_call 20; refine (inv_any _ _ _).mono ?_; rintro e w' ⟨rfl, m, rfl⟩; rw [c1.out]))
        go_ret
        exact ⟨ret_int (by unfold powS; rw [if_pos H.out, if_neg (by omega), HI.out]), Drew.of _ _⟩
      | some x =>
        have c1 := mkHid (show invB n a = true by simp [invB, hi])
        have c2 := mkHid (show invI n a = x by simp [invI, hi])
        have HI := mkHid hi
        obtain ⟨_, x0, x1, _⟩ := invO_some hi
        obtain ⟨p0, p1⟩ := powI_bd h1 x (-b).toNat
        clear hm hi
        have e1 : IntKind.u64.wrap (-IntKind.u64.wrap b) = -b := by simp only [IntKind.wrap_u64]; omega
        go_enter Tryd.func30, Tryd.ntmps30
        go_wp2_with (first | (go_at_call 76; refine (valid_yes _ _ H.out).mono ?_; rintro e w' ⟨rfl, rfl⟩) | (go_at_call 20; refine (inv_any _ _ _).mono ?_; rintro e w' ⟨rfl, m, rfl⟩; rw [c1.out, c2.out]) | (go_at_call 84; refine (power_any _ _ _ _ h1 h2 (by omega) (by omega) (by omega) (by omega)).mono ?_; rintro e w' ⟨rfl, m, rfl⟩))
        go_ret
        exact ⟨ret_int (by unfold powS; rw [if_pos H.out, if_neg (by omega), HI.out]), Drew.of _ _⟩
end Go.Proofs.YtbllanmhbfnagaaDoor
