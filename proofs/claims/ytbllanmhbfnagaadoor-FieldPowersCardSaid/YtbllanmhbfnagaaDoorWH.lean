/- witness, passes, the two tests of primality (walks). -/
import Derived.Test.YtbllanmhbfnagaaDoorWG
import Derived.Test.YtbllanmhbfnagaaDoorF2
set_option linter.unusedVariables false
set_option linter.unusedSimpArgs false
namespace Go.Proofs.YtbllanmhbfnagaaDoor
open Go.RowKit

/-- The world holds the library's table for TrailingZeros64. -/
structure Tab (w : World) : Prop where
  cells : TabAt (Tryd.lays7n29_ren.g 1) Lib.deBruijn64tab w
  lt : Tryd.lays7n29_ren.g 1 < w.heap.size
theorem Tab.drewN {w : World} (h : Tab w) (m : Nat) : Tab (w.drewN m) := ⟨h.cells, h.lt⟩
theorem Tab.below {w w' : World} {B : Nat} (h : Tab w) (hb : Below B w w') (hB : Tryd.lays7n29_ren.g 1 < B) : Tab w' :=
  ⟨fun j hj => by rw [hb.cell (p := ⟨Tryd.lays7n29_ren.g 1, j, none⟩) hB]; exact h.cells j hj, Nat.lt_of_lt_of_le h.lt hb.size⟩
theorem Tab.step {w w' : World} (h : Tab w) (hb : Below w.heap.size w w') : Tab w' := h.below hb h.lt
theorem shr_toNat (a k : Nat) : ((a : Int) / 2 ^ k).toNat = a / 2 ^ k := by
  rw [show ((a : Int) / 2 ^ k) = ((a / 2 ^ k : Nat) : Int) by push_cast; rfl, Int.toNat_natCast]
set_option maxHeartbeats 1000000 in
theorem witness_any (n base : Int) (w : World) (hT : Tab w) (h1 : 3 ≤ n) (h2 : n < 2305843009213693952) (b0 : 0 ≤ base) (b1 : base < n) :
    Calls Tryd.prog 80 #[.int .i64 n, .int .u64 base] w fun e w' => e = .returned (.bool (witB n base)) ∧ Drew w w' := by
  obtain ⟨M, hM⟩ : ∃ M : Nat, (M : Int) = n - 1 := ⟨(n - 1).toNat, by omega⟩
  have hMt : (n - 1).toNat = M := by omega
  have TZ := mkHid (fun w hT => Tryd.bits_TrailingZeros64 M (by omega) w hT)
  obtain ⟨s1, s2, s3⟩ := ctz_split M (by omega) (by omega)
  have HK : Hid (Lib.ctz 64 (n - 1).toNat = Lib.ctz 64 M) := mkHid (by rw [hMt])
  have HD : Hid ((n - 1).toNat / 2 ^ Lib.ctz 64 M = M / 2 ^ Lib.ctz 64 M) := mkHid (by rw [hMt])
  generalize Lib.ctz 64 M = k at *
  have hde := mkHid (shr_toNat M k)
  have d0 : 0 ≤ (M : Int) / 2 ^ k := Int.ediv_nonneg (by omega) (Int.pow_nonneg (by omega))
  have d1 : (M : Int) / 2 ^ k ≤ M := Int.ediv_le_self _ (by omega)
  obtain ⟨p0, p1⟩ := powI_bd (show 1 ≤ n by omega) base (M / 2 ^ k)
  have HM := mkHid hM
  have hN : n - 1 = (M : Int) := hM.symm
  clear hM hMt s1 s2
  go_enter Tryd.func80, Tryd.ntmps80
  go_wp2_with fail
  refine (TZ.out _ (fun _ => hT.cells)).mono ?_
  rintro e w' ⟨rfl, rfl⟩
  go_wp2_with fail
  refine (power_any n base _ _ (by omega) h2 b0 b1 (by omega) (by omega)).mono ?_
  rintro e w' ⟨rfl, m, rfl⟩
  rw [hde.out]
  generalize hd : M / 2 ^ k = d at *
  have Hd := mkHid hd
  clear hd
  have st := mkHid (SqInv.start n base d)
  have HN := mkHid hN
  by_cases hx : powI n base d = 1
  · have c1 : (powI n base d == 1) = true := by rw [beq_iff_eq]; exact hx
    have HX := mkHid (wit_one HK.out HD.out hx)
    clear hx st
    generalize powI n base d = x at *
    go_wp2
    go_ret
    exact ⟨ret_bool HX.out.symm, Drew.of _ _⟩
  · have c1 : (powI n base d == 1) = false := by rw [beq_eq_false_iff_ne]; exact hx
    have HX : Hid (∀ x, SqInv n base d k x → witB n base = true) := mkHid (fun x hs => wit_yes HK.out HD.out hx hs)
    clear hx
    generalize hx0 : powI n base d = x at *
    clear hx0
    go_wp2_with fail
    go_loopw [6, 22] (fun u c wr => ∃ (x' : Int) (i : Nat), u = .int .u64 x' ∧ c = .int .i64 i ∧ i ≤ k ∧ 0 ≤ x' ∧ x' < n ∧ Hid (SqInv n base d i x') ∧ Drew w' wr) (fun _ c _ => (k - intOf c).toNat)
    case atStart => exact ⟨_, 0, rfl, rfl, by omega, p0, p1, st.out, Drew.of _ _⟩
    case round =>
      obtain ⟨x', i, rfl, rfl, hi, x0, x1, hs, m', rfl⟩ := hrel
      clear p0 p1 st c1
      by_cases hlt : i < k
      · by_cases hx : x' = M
        · have HV := mkHid (wit_hit HK.out HD.out hs.out hlt (by omega))
          have c1 : (x' == (M : Int)) = true := by rw [beq_iff_eq]; exact hx
          clear hx
          go_wp2
          go_ret
          exact ⟨ret_bool HV.out.symm, Drew.of _ _⟩
        · have HV := mkHid (hs.out.next (by omega))
          have c1 : (x' == (M : Int)) = false := by rw [beq_eq_false_iff_ne]; exact hx
          clear hx
          obtain ⟨q0, q1⟩ := emod_bd (x' * x') n (by omega)
          go_wp2_with fail
          refine (product_any n x' x' _ (by omega) h2 x0 x1 x0 x1).mono ?_
          rintro e w' ⟨rfl, m, rfl⟩
          go_wp2
          go_roundw
          case rel => exact ⟨_, i + 1, rfl, by go_num, by omega, q0, q1, HV.out, Drew.of _ _⟩
          case measure => simp [intOf]; omega
      · obtain rfl : i = k := by omega
        have HV := mkHid (HX.out _ hs.out)
        go_wp2
        go_ret
        exact ⟨ret_bool HV.out.symm, Drew.of _ _⟩
end Go.Proofs.YtbllanmhbfnagaaDoor
