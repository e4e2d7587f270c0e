/- Div64. -/
import Derived.Test.YtbllanmhbfnagaaDoorProg
import Derived.WalkKit
import Derived.WalkSpells
import Derived.WalkLawsBesides
import Derived.BigQuiet
import Derived.Deep.QuietTactic
import Derived.Deep.Cut
import Derived.Deep.CutBlock
import Derived.Deep.DeepCutAuto
import Derived.Test.YtbllanmhbfnagaaDoorU0
import Derived.Test.YtbllanmhbfnagaaDoorU3
set_option linter.unusedVariables false
set_option linter.unusedSimpArgs false
namespace Go.Proofs.YtbllanmhbfnagaaDoor
open Go.RowKit
set_option maxHeartbeats 400000 in
set_option maxRecDepth 100000 in
theorem div64_core (hi lo y s Y y1 y0 u L d1 d0 q1 q0 v qa ra qb rb rr : Int) (w : World) 
    (hY1 : 9223372036854775808 ≤ Y) (hY2 : Y ≤ 18446744073709551615) (hs : 0 ≤ s) (hs1 : s ≤ 63)
    (b1 : 2147483648 ≤ y1) (b2 : y1 < 4294967296) (b3 : 0 ≤ y0) (b4 : y0 < 4294967296) (hu : 0 ≤ u) (hu1 : u < Y)
    (hd1 : 0 ≤ d1) (hd2 : d1 < 4294967296) (hd3 : 0 ≤ d0) (hd4 : d0 < 4294967296)
    (e1 : (y == 0) = false) (e2 : hi < y) (e3 : (hi == 0) = false)
    (a1 : IntKind.u64.wrap (y * 2 ^ s.toNat) = Y)
    (a2 : Y / 4294967296 = y1)
    (a3 : bits BinOp.and IntKind.u64 Y 4294967295 = y0)
    (a4 : bits BinOp.or IntKind.u64 (IntKind.u64.wrap (hi * 2 ^ s.toNat)) (lo / 2 ^ (64 - s).toNat) = u)
    (a5 : IntKind.u64.wrap (lo * 2 ^ s.toNat) = L)
    (a6 : L / 4294967296 = d1)
    (a7 : bits BinOp.and IntKind.u64 L 4294967295 = d0)
    (hYe : Y = y1 * 4294967296 + y0)
    (a8 : u / y1 = qa) (a9 : IntKind.u64.wrap (u - IntKind.u64.wrap (qa * y1)) = ra)
    (a10 : IntKind.u64.wrap (IntKind.u64.wrap (IntKind.u64.wrap (u * 4294967296) + d1) - IntKind.u64.wrap (q1 * Y)) = v)
    (a11 : v / y1 = qb) (a12 : IntKind.u64.wrap (v - IntKind.u64.wrap (qb * y1)) = rb)
    (a14 : IntKind.u64.wrap (IntKind.u64.wrap (IntKind.u64.wrap (v * 4294967296) + d0) - IntKind.u64.wrap (q0 * Y)) = rr)
    (k1 : KInv y1 u ((u * 4294967296 + d1) / Y) qa ra) (k2 : KInv y1 v ((v * 4294967296 + d0) / Y) qb rb)
    (hq1 : (u * 4294967296 + d1) / Y = q1) (hq0 : (v * 4294967296 + d0) / Y = q0) (hv : 0 ≤ v) (hv1 : v < Y)
    (HL : ∀ w, Calls Tryd.prog 121 #[.int .u64 y] w fun e w' => e = .returned (.int .i64 s) ∧ w = w') :
    Calls Tryd.prog 120 #[.int .u64 hi, .int .u64 lo, .int .u64 y] w fun e w' => e = .returned (.tuple #[.int .u64 (q1 * 4294967296 + q0), .int .u64 (rr / 2 ^ s.toNat)]) ∧ w = w' := by
  have HL' := mkHid HL; clear HL
  have HY := mkHid hYe; clear hYe
  have K1 := mkHid k1; clear k1
  have K2 := mkHid k2; clear k2
  have A8 := mkHid a8
  obtain ⟨n1, n2⟩ := (show 0 ≤ q1 ∧ q1 < 4294967296 from hq1 ▸ kn_Q_bd (by omega) hu hu1 hd1 hd2)
  obtain ⟨n3, n4⟩ := (show 0 ≤ q0 ∧ q0 < 4294967296 from hq0 ▸ kn_Q_bd (by omega) hv hv1 hd3 hd4)
  have B1 := mkHid hq1; clear hq1
  have B2 := mkHid hq0; clear hq0
  go_enter Tryd.func120, Tryd.ntmps120
  go_upto_block 0 with (first | (go_at_call 121; refine (HL'.out _).mono ?_; rintro e w' ⟨rfl, rfl⟩))
  simp only [a8]
  clear a8
  go_cut [15, 16] (fun a b wx => a = .int .u64 q1 ∧ (∃ t : Int, b = .int .u64 t) ∧ wx = w)
  case first =>
    go_wp2_with fail
    go_loop [15, 16] (fun a b => ∃ q r : Int, a = .int .u64 q ∧ b = .int .u64 r ∧ KInv y1 u q1 q r) (fun a _ => (intOf a).toNat)
    case atStart => exact ⟨_, _, rfl, rfl, B1.out ▸ K1.out⟩
    case round =>
      obtain ⟨q, r, rfl, rfl, hk⟩ := hrel
      obtain ⟨m1, m2, m3, m4⟩ := (show 0 ≤ r ∧ r < 4294967296 ∧ q1 ≤ q ∧ q ≤ 4294967297 from ⟨hk.r0, hk.r1, hk.lo, hk.hi⟩)
      obtain ⟨p1, p2⟩ := kn_prod_bd q y0 (by omega) m4 b3 b4
      have HK := mkHid hk; clear hk
      by_cases hq : 4294967296 ≤ q
      · have HT : Hid (4294967296 ≤ q ∨ 4294967296 * r + d1 < q * y0) := mkHid (Or.inl hq)
        by_cases hr : r + y1 < 4294967296
        · have HN : Hid (KInv y1 u q1 (q - 1) (r + y1)) := mkHid (B1.out ▸ kn_next (by omega) HY.out hu1 hd2 (by omega) (B1.out.symm ▸ HK.out) HT.out hr)
          go_wp2
          go_round
          case rel => exact ⟨_, _, rfl, rfl, HN.out⟩
          case measure => simp [intOf]; omega
        · have HN : Hid (q - 1 = q1) := mkHid (B1.out ▸ kn_break (by omega) hu HY.out hu1 hd1 hd2 b3 b4 (B1.out.symm ▸ HK.out) HT.out (by omega))
          go_wp2
          go_meet
          case rel => exact ⟨by rw [HN.out], ⟨_, rfl⟩, rfl⟩
      by_cases ht : 4294967296 * r + d1 < q * y0
      · have HT : Hid (4294967296 ≤ q ∨ 4294967296 * r + d1 < q * y0) := mkHid (Or.inr ht)
        have hstep : q1 ≤ q - 1 := B1.out ▸ kn_step (by omega) HY.out hu1 hd2 (B1.out.symm ▸ HK.out) HT.out
        by_cases hr : r + y1 < 4294967296
        · have HN : Hid (KInv y1 u q1 (q - 1) (r + y1)) := mkHid (B1.out ▸ kn_next (by omega) HY.out hu1 hd2 (by omega) (B1.out.symm ▸ HK.out) HT.out hr)
          go_wp2
          go_round
          case rel => exact ⟨_, _, rfl, rfl, HN.out⟩
          case measure => simp [intOf]; omega
        · have HN : Hid (q - 1 = q1) := mkHid (B1.out ▸ kn_break (by omega) hu HY.out hu1 hd1 hd2 b3 b4 (B1.out.symm ▸ HK.out) HT.out (by omega))
          go_wp2
          go_meet
          case rel => exact ⟨by rw [HN.out], ⟨_, rfl⟩, rfl⟩
      · have HN : Hid (q = q1) := mkHid (B1.out ▸ kn_exit (by omega) HY.out (B1.out.symm ▸ HK.out) (by omega))
        go_wp2
        go_meet
        case rel => exact ⟨by rw [HN.out], ⟨_, rfl⟩, rfl⟩
  case rest =>
    obtain ⟨rfl, ⟨t1, rfl⟩, rfl⟩ := hcut
    go_upto_block 2 with (fail)
    simp only [a11]
    clear a11
    go_cut [16, 18] (fun b a wx => a = .int .u64 q0 ∧ (∃ t : Int, b = .int .u64 t) ∧ wx = wc)
    case first =>
      go_wp2_with fail
      go_loop [16, 18] (fun b a => ∃ q r : Int, a = .int .u64 q ∧ b = .int .u64 r ∧ KInv y1 v q0 q r) (fun _ a => (intOf a).toNat)
      case atStart => exact ⟨_, _, rfl, rfl, B2.out ▸ K2.out⟩
      case round =>
        obtain ⟨q, r, rfl, rfl, hk⟩ := hrel
        obtain ⟨m1, m2, m3, m4⟩ := (show 0 ≤ r ∧ r < 4294967296 ∧ q0 ≤ q ∧ q ≤ 4294967297 from ⟨hk.r0, hk.r1, hk.lo, hk.hi⟩)
        obtain ⟨p1, p2⟩ := kn_prod_bd q y0 (by omega) m4 b3 b4
        have HK := mkHid hk; clear hk
        by_cases hq : 4294967296 ≤ q
        · have HT : Hid (4294967296 ≤ q ∨ 4294967296 * r + d0 < q * y0) := mkHid (Or.inl hq)
          by_cases hr : r + y1 < 4294967296
          · have HN : Hid (KInv y1 v q0 (q - 1) (r + y1)) := mkHid (B2.out ▸ kn_next (by omega) HY.out hv1 hd4 (by omega) (B2.out.symm ▸ HK.out) HT.out hr)
            go_wp2
            go_round
            case rel => exact ⟨_, _, rfl, rfl, HN.out⟩
            case measure => simp [intOf]; omega
          · have HN : Hid (q - 1 = q0) := mkHid (B2.out ▸ kn_break (by omega) hv HY.out hv1 hd3 hd4 b3 b4 (B2.out.symm ▸ HK.out) HT.out (by omega))
            go_wp2
            go_meet
            case rel => exact ⟨by rw [HN.out], ⟨_, rfl⟩, rfl⟩
        by_cases ht : 4294967296 * r + d0 < q * y0
        · have HT : Hid (4294967296 ≤ q ∨ 4294967296 * r + d0 < q * y0) := mkHid (Or.inr ht)
          have hstep : q0 ≤ q - 1 := B2.out ▸ kn_step (by omega) HY.out hv1 hd4 (B2.out.symm ▸ HK.out) HT.out
          by_cases hr : r + y1 < 4294967296
          · have HN : Hid (KInv y1 v q0 (q - 1) (r + y1)) := mkHid (B2.out ▸ kn_next (by omega) HY.out hv1 hd4 (by omega) (B2.out.symm ▸ HK.out) HT.out hr)
            go_wp2
            go_round
            case rel => exact ⟨_, _, rfl, rfl, HN.out⟩
            case measure => simp [intOf]; omega
          · have HN : Hid (q - 1 = q0) := mkHid (B2.out ▸ kn_break (by omega) hv HY.out hv1 hd3 hd4 b3 b4 (B2.out.symm ▸ HK.out) HT.out (by omega))
            go_wp2
            go_meet
            case rel => exact ⟨by rw [HN.out], ⟨_, rfl⟩, rfl⟩
        · have HN : Hid (q = q0) := mkHid (B2.out ▸ kn_exit (by omega) HY.out (B2.out.symm ▸ HK.out) (by omega))
          go_wp2
          go_meet
          case rel => exact ⟨by rw [HN.out], ⟨_, rfl⟩, rfl⟩
    case rest =>
      obtain ⟨rfl, ⟨t2, rfl⟩, rfl⟩ := hcut
      go_wp2
      go_ret2
      exact ⟨rfl, rfl⟩
end Go.Proofs.YtbllanmhbfnagaaDoor
