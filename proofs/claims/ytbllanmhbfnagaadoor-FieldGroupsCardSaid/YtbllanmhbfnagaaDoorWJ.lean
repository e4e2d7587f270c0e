/- The reference's passes, bases, Prime (walks). -/
import Derived.Test.YtbllanmhbfnagaaDoorWI
set_option linter.unusedVariables false
set_option linter.unusedSimpArgs false
namespace Go.Proofs.YtbllanmhbfnagaaDoor
open Go.RowKit

set_option maxHeartbeats 1000000 in
theorem passes_any (n base : Int) (w : World) (h1 : 3 ≤ n) (h2 : n < 2305843009213693952) (ho : n % 2 = 1) :
    Calls Tryd.prog 82 #[.int .i64 n, .int .i64 base] w fun e w' => e = .returned (.bool (!witB n base)) ∧ w = w' := by
  obtain ⟨M, hM⟩ : ∃ M : Nat, (M : Int) = n - 1 := ⟨(n - 1).toNat, by omega⟩
  have hMt : (n - 1).toNat = M := by omega
  have hm := mkHid (modB_iff.2 ⟨show 1 ≤ n by omega, h2⟩)
  have hN : n - 1 = (M : Int) := hM.symm
  obtain ⟨s1, s2, s3⟩ := ctz_split M (by omega) (by omega)
  have HK : Hid (Lib.ctz 64 (n - 1).toNat = Lib.ctz 64 M) := mkHid (by rw [hMt])
  have HD : Hid ((n - 1).toNat / 2 ^ Lib.ctz 64 M = M / 2 ^ Lib.ctz 64 M) := mkHid (by rw [hMt])
  generalize Lib.ctz 64 M = k at *
  generalize M / 2 ^ k = d at *
  have S1 := mkHid s1
  have S2 := mkHid s2
  have HO := mkHid ho
  clear hM hMt s1 s2 ho
  go_enter Tryd.func82, Tryd.ntmps82
  go_wp2_with fail
  go_loop [5, 6] (fun u v => ∃ x y : Nat, u = .int .i64 x ∧ v = .int .i64 y ∧ Hid (2 ^ y * x = M) ∧ 1 ≤ x ∧ x ≤ M ∧ y + x ≤ M) (fun u _ => (intOf u).toNat)
  case atStart => exact ⟨M, 0, rfl, rfl, mkHid (by omega), by omega, by omega, by omega⟩
  case round =>
    obtain ⟨x, y, rfl, rfl, hxy, x0, x1, x2⟩ := hrel
    by_cases hp : x % 2 = 0
    · have c1 : ((x : Int) % 2 == 0) = true := by rw [beq_iff_eq]; omega
      have HP := mkHid hp
      have hx : x / 2 * 2 = x := by omega
      have HX := mkHid hx
      have hx3 : 1 ≤ x / 2 := by omega
      have hx4 : x / 2 + y + 1 ≤ M := by omega
      clear hp hx
      go_wp2
      go_round
      case rel => exact ⟨x / 2, y + 1, by go_num, by go_num, mkHid (by rw [← hxy.out, Nat.pow_succ]; conv => rhs; rw [← HX.out]
                                                                       rw [Nat.mul_assoc, Nat.mul_comm 2]), by omega, by omega, by omega⟩
      case measure => simp [intOf]; omega
    · have c1 : ((x : Int) % 2 == 0) = false := by rw [beq_eq_false_iff_ne]; omega
      obtain ⟨rfl, rfl⟩ := odd_part_unique y k x d (hxy.out.trans S1.out) (by omega) S2.out
      clear hp
      obtain ⟨p0, p1⟩ := powI_bd (show 1 ≤ n by omega) base x
      have st := mkHid (SqInv.start n base x)
      by_cases hx : powI n base x = 1
      · have c2 : (powI n base x == 1) = true := by rw [beq_iff_eq]; exact hx
        have HX := mkHid (wit_one HK.out HD.out hx)
        clear hx
        go_wp2_with fail
        refine (rpower_any n base x _ hm.out (by omega) (by omega)).mono ?_
        rintro e w' ⟨rfl, rfl⟩
        rw [Int.toNat_natCast]
        generalize powI n base x = z at *
        go_wp2
        go_ret
        exact ⟨ret_bool (by rw [HX.out]; rfl), rfl⟩
      · have c2 : (powI n base x == 1) = false := by rw [beq_eq_false_iff_ne]; exact hx
        have HX : Hid (∀ z, SqInv n base x y z → witB n base = true) := mkHid (fun z hs => wit_yes HK.out HD.out hx hs)
        clear hx
        go_wp2_with fail
        refine (rpower_any n base x _ hm.out (by omega) (by omega)).mono ?_
        rintro e w' ⟨rfl, rfl⟩
        rw [Int.toNat_natCast]
        generalize hz : powI n base x = z at *
        clear hz
        go_wp2_with fail
        clear c1 c2
        go_loop [7, 8] (fun u c => ∃ (x' : Int) (i : Nat), u = .int .i64 x' ∧ c = .int .i64 i ∧ i ≤ y ∧ 0 ≤ x' ∧ x' < n ∧ Hid (SqInv n base x i x')) (fun _ c => (y - intOf c).toNat)
        case atStart => exact ⟨_, 0, rfl, rfl, by omega, p0, p1, st.out⟩
        case round =>
          obtain ⟨x', i, rfl, rfl, hi, y0, y1, hs⟩ := hrel
          clear p0 p1 st
          by_cases hlt : i < y
          · by_cases hx : x' = M
            · have HV := mkHid (wit_hit HK.out HD.out hs.out hlt (by omega))
              have c1 : (x' == (M : Int)) = true := by rw [beq_iff_eq]; exact hx
              clear hx
              go_wp2
              go_ret
              exact ⟨ret_bool (by rw [HV.out]; rfl), rfl⟩
            · have HV := mkHid (hs.out.next (by omega))
              have c1 : (x' == (M : Int)) = false := by rw [beq_eq_false_iff_ne]; exact hx
              clear hx
              obtain ⟨q0, q1⟩ := emod_bd (x' * x') n (by omega)
              go_wp2_with fail
              refine (rmul_any n x' x' _).mono ?_
              rintro e w' ⟨rfl, rfl⟩
              rw [mulI_of hm.out]
              go_wp2
              go_round
              case rel => exact ⟨_, i + 1, rfl, by go_num, by omega, q0, q1, HV.out⟩
              case measure => simp [intOf]; omega
          · obtain rfl : i = y := by omega
            have HV := mkHid (HX.out _ hs.out)
            go_wp2
            go_ret
            exact ⟨ret_bool (by rw [HV.out]; rfl), rfl⟩
set_option maxHeartbeats 400000 in
theorem bases_any (w : World) :
    Calls Tryd.prog 81 #[] w fun e w' => e = .returned (.slice (some ⟨w.heap.size, 0, none⟩) 12 12) ∧ w' = w.alloc (.cells #[.int .i64 2, .int .i64 3, .int .i64 5, .int .i64 7, .int .i64 11, .int .i64 13, .int .i64 17, .int .i64 19, .int .i64 23, .int .i64 29, .int .i64 31, .int .i64 37] 3) := by
  go_enter Tryd.func81, Tryd.ntmps81
  go_wp2
  go_ret
  exact ⟨rfl, rfl⟩
set_option maxHeartbeats 400000 in
theorem rprime_lo (n : Int) (w : World) (h : n < 2 ∨ 2305843009213693952 ≤ n) :
    Calls Tryd.prog 23 #[.int .i64 n] w fun e w' => e = .returned (.bool (primeB n)) ∧ Below w.heap.size w w' := by
  have HB := mkHid (primeB_lo h)
  by_cases h1 : n < 2
  all_goals
    go_enter Tryd.func23, Tryd.ntmps23
    go_wp2
    go_ret
    exact ⟨ret_bool HB.out.symm, Below.refl _ _⟩
theorem cells12 (w : World) (i : Nat) (p : Int) (hi : i < 12) (hp : smallP[i]? = some p) : (w.alloc (.cells #[.int .i64 2, .int .i64 3, .int .i64 5, .int .i64 7, .int .i64 11, .int .i64 13, .int .i64 17, .int .i64 19, .int .i64 23, .int .i64 29, .int .i64 31, .int .i64 37] 3)).cell? ⟨w.heap.size, i, none⟩ = some (.int .i64 p) := by
  have h : ∀ i : Fin 12, ∀ p, smallP[i.val]? = some p → (w.alloc (.cells #[.int .i64 2, .int .i64 3, .int .i64 5, .int .i64 7, .int .i64 11, .int .i64 13, .int .i64 17, .int .i64 19, .int .i64 23, .int .i64 29, .int .i64 31, .int .i64 37] 3)).cell? ⟨w.heap.size, i.val, none⟩ = some (.int .i64 p) := by
    intro i p hp
    match i, hp with
    | ⟨0, _⟩, hp => (obtain rfl : (2 : Int) = p := Option.some.inj hp); go_simp
    | ⟨1, _⟩, hp => (obtain rfl : (3 : Int) = p := Option.some.inj hp); go_simp
    | ⟨2, _⟩, hp => (obtain rfl : (5 : Int) = p := Option.some.inj hp); go_simp
    | ⟨3, _⟩, hp => (obtain rfl : (7 : Int) = p := Option.some.inj hp); go_simp
    | ⟨4, _⟩, hp => (obtain rfl : (11 : Int) = p := Option.some.inj hp); go_simp
    | ⟨5, _⟩, hp => (obtain rfl : (13 : Int) = p := Option.some.inj hp); go_simp
    | ⟨6, _⟩, hp => (obtain rfl : (17 : Int) = p := Option.some.inj hp); go_simp
    | ⟨7, _⟩, hp => (obtain rfl : (19 : Int) = p := Option.some.inj hp); go_simp
    | ⟨8, _⟩, hp => (obtain rfl : (23 : Int) = p := Option.some.inj hp); go_simp
    | ⟨9, _⟩, hp => (obtain rfl : (29 : Int) = p := Option.some.inj hp); go_simp
    | ⟨10, _⟩, hp => (obtain rfl : (31 : Int) = p := Option.some.inj hp); go_simp
    | ⟨11, _⟩, hp => (obtain rfl : (37 : Int) = p := Option.some.inj hp); go_simp
  exact h ⟨i, hi⟩ p hp
set_option maxHeartbeats 1000000 in
theorem rprime_hi (n : Int) (w : World) (h1 : 2 ≤ n) (h2 : n < 2305843009213693952) :
    Calls Tryd.prog 23 #[.int .i64 n] w fun e w' => e = .returned (.bool (primeB n)) ∧ Below w.heap.size w w' := by
  go_enter Tryd.func23, Tryd.ntmps23
  go_wp2_with fail
  refine (bases_any _).mono ?_
  rintro e w' ⟨rfl, rfl⟩
  go_wp2_with fail
  have hBl := (Below.refl w.heap.size w).alloc (Nat.le_refl _) (.cells #[.int .i64 2, .int .i64 3, .int .i64 5, .int .i64 7, .int .i64 11, .int .i64 13, .int .i64 17, .int .i64 19, .int .i64 23, .int .i64 29, .int .i64 31, .int .i64 37] 3)
  have hc := mkHid (cells12 w)
  generalize w.alloc (.cells #[.int .i64 2, .int .i64 3, .int .i64 5, .int .i64 7, .int .i64 11, .int .i64 13, .int .i64 17, .int .i64 19, .int .i64 23, .int .i64 29, .int .i64 31, .int .i64 37] 3) = wa at *
  go_loop [4] (fun c => ∃ i : Nat, c = .int .i64 i ∧ i ≤ 12 ∧ Hid (∀ j q, j < i → smallP[j]? = some q → n % q ≠ 0)) (fun c => (12 - intOf c).toNat)
  case atStart => exact ⟨0, rfl, by omega, mkHid (by omega)⟩
  case round =>
    obtain ⟨i, rfl, hi, hn⟩ := hrel
    by_cases hlt : i < 12
    · obtain ⟨p, hp, p0, p1⟩ := smallP_at i hlt
      have hix := hc.out i p hlt hp
      have HP := mkHid hp
      clear hp
      by_cases hd : n % p = 0
      · have HV := mkHid (primeB_div h1 h2 HP.out hd hn.out)
        have c1 : (n % p == 0) = true := by rw [beq_iff_eq]; exact hd
        clear hd
        go_wp2
        go_ret
        exact ⟨ret_bool HV.out.symm, hBl⟩
      · have HV : Hid (∀ j q, j < i + 1 → smallP[j]? = some q → n % q ≠ 0) := mkHid (fun j q hj hq => by
          rcases Nat.lt_or_ge j i with h | h
          · exact hn.out j q h hq
          · obtain rfl : j = i := by omega
            obtain rfl := Option.some.inj (HP.out.symm.trans hq)
            exact hd)
        have c1 : (n % p == 0) = false := by rw [beq_eq_false_iff_ne]; exact hd
        clear hd
        go_wp2
        go_round
        case rel => exact ⟨i + 1, by go_num, by omega, HV⟩
        case measure => simp [intOf]; omega
    · obtain rfl : i = 12 := by omega
      obtain ⟨hb1, hb2⟩ := big_odd h1 hn.out
      have HO := mkHid hb2
      clear hb2
      go_wp2_with fail
      go_loop [5] (fun c => ∃ i : Nat, c = .int .i64 i ∧ i ≤ 12 ∧ Hid (∀ j q, j < i → smallP[j]? = some q → witB n q = false)) (fun c => (12 - intOf c).toNat)
      case atStart => exact ⟨0, rfl, by omega, mkHid (by omega)⟩
      case round =>
        obtain ⟨i, rfl, hi, hw⟩ := hrel
        by_cases hlt : i < 12
        · obtain ⟨p, hp, p0, p1⟩ := smallP_at i hlt
          have hix := hc.out i p hlt hp
          have HP := mkHid hp
          clear hp
          cases hd : witB n p
          · have HV : Hid (∀ j q, j < i + 1 → smallP[j]? = some q → witB n q = false) := mkHid (fun j q hj hq => by
              rcases Nat.lt_or_ge j i with h | h
              · exact hw.out j q h hq
              · obtain rfl : j = i := by omega
                obtain rfl := Option.some.inj (HP.out.symm.trans hq)
                exact hd)
            have HD := mkHid hd
            clear hd
            go_wp2_with fail
            refine (passes_any n p _ (by omega) h2 HO.out).mono ?_
            rintro e w' ⟨rfl, rfl⟩
            rw [HD.out]
            go_wp2
            go_round
            case rel => exact ⟨i + 1, by go_num, by omega, HV⟩
            case measure => simp [intOf]; omega
          · have HV := mkHid (primeB_wit h1 h2 hn.out HP.out hd)
            have HD := mkHid hd
            clear hd
            go_wp2_with fail
            refine (passes_any n p _ (by omega) h2 HO.out).mono ?_
            rintro e w' ⟨rfl, rfl⟩
            rw [HD.out]
            go_wp2
            go_ret
            exact ⟨ret_bool HV.out.symm, hBl⟩
        · obtain rfl : i = 12 := by omega
          have HV := mkHid (primeB_yes h1 h2 hn.out hw.out)
          go_wp2
          go_ret
          exact ⟨ret_bool HV.out.symm, hBl⟩
theorem rprime_any (n : Int) (w : World) :
    Calls Tryd.prog 23 #[.int .i64 n] w fun e w' => e = .returned (.bool (primeB n)) ∧ Below w.heap.size w w' := by
  by_cases h : n < 2 ∨ 2305843009213693952 ≤ n
  · exact rprime_lo n w h
  · exact rprime_hi n w (by omega) (by omega)
end Go.Proofs.YtbllanmhbfnagaaDoor
