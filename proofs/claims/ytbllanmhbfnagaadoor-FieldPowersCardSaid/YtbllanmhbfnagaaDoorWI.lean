/- Prime of field (walk). -/
import Derived.Test.YtbllanmhbfnagaaDoorWH
set_option linter.unusedVariables false
set_option linter.unusedSimpArgs false
namespace Go.Proofs.YtbllanmhbfnagaaDoor
open Go.RowKit

set_option maxHeartbeats 400000 in
theorem prime_lo (n : Int) (w : World) (h : n < 2 ∨ 2305843009213693952 ≤ n) :
    Calls Tryd.prog 22 #[.int .i64 n] w fun e w' => e = .returned (.bool (primeB n)) ∧ Below w.heap.size w w' := by
  have HB := mkHid (primeB_lo h)
  by_cases h1 : n < 2
  all_goals
    go_enter Tryd.func22, Tryd.ntmps22
    go_wp2
    go_ret
    exact ⟨ret_bool HB.out.symm, Below.refl _ _⟩
theorem ix12 (i : Nat) (p : Int) (hi : i < 12) (hp : smallP[i]? = some p) (w : World) :
    Sem.run Tryd.prog (Instr.index 78 (.agg #[.int .i64 2, .int .i64 3, .int .i64 5, .int .i64 7, .int .i64 11, .int .i64 13, .int .i64 17, .int .i64 19, .int .i64 23, .int .i64 29, .int .i64 31, .int .i64 37]) (.int .i64 i)) w = .ok (.int .i64 p) w := by
  have h : ∀ i : Fin 12, ∀ p, smallP[i.val]? = some p → Sem.run Tryd.prog (Instr.index 78 (.agg #[.int .i64 2, .int .i64 3, .int .i64 5, .int .i64 7, .int .i64 11, .int .i64 13, .int .i64 17, .int .i64 19, .int .i64 23, .int .i64 29, .int .i64 31, .int .i64 37]) (.int .i64 (i.val : Int))) w = .ok (.int .i64 p) w := by
    intro i p hp
    match i, hp with
    | ⟨0, _⟩, hp => (obtain rfl : (2 : Int) = p := Option.some.inj hp); show Sem.run _ _ _ = _; kernel_rfl
    | ⟨1, _⟩, hp => (obtain rfl : (3 : Int) = p := Option.some.inj hp); show Sem.run _ _ _ = _; kernel_rfl
    | ⟨2, _⟩, hp => (obtain rfl : (5 : Int) = p := Option.some.inj hp); show Sem.run _ _ _ = _; kernel_rfl
    | ⟨3, _⟩, hp => (obtain rfl : (7 : Int) = p := Option.some.inj hp); show Sem.run _ _ _ = _; kernel_rfl
    | ⟨4, _⟩, hp => (obtain rfl : (11 : Int) = p := Option.some.inj hp); show Sem.run _ _ _ = _; kernel_rfl
    | ⟨5, _⟩, hp => (obtain rfl : (13 : Int) = p := Option.some.inj hp); show Sem.run _ _ _ = _; kernel_rfl
    | ⟨6, _⟩, hp => (obtain rfl : (17 : Int) = p := Option.some.inj hp); show Sem.run _ _ _ = _; kernel_rfl
    | ⟨7, _⟩, hp => (obtain rfl : (19 : Int) = p := Option.some.inj hp); show Sem.run _ _ _ = _; kernel_rfl
    | ⟨8, _⟩, hp => (obtain rfl : (23 : Int) = p := Option.some.inj hp); show Sem.run _ _ _ = _; kernel_rfl
    | ⟨9, _⟩, hp => (obtain rfl : (29 : Int) = p := Option.some.inj hp); show Sem.run _ _ _ = _; kernel_rfl
    | ⟨10, _⟩, hp => (obtain rfl : (31 : Int) = p := Option.some.inj hp); show Sem.run _ _ _ = _; kernel_rfl
    | ⟨11, _⟩, hp => (obtain rfl : (37 : Int) = p := Option.some.inj hp); show Sem.run _ _ _ = _; kernel_rfl
  exact h ⟨i, hi⟩ p hp
set_option maxHeartbeats 1000000 in
theorem prime_hi (n : Int) (w : World) (hT : Tab w) (h1 : 2 ≤ n) (h2 : n < 2305843009213693952) :
    Calls Tryd.prog 22 #[.int .i64 n] w fun e w' => e = .returned (.bool (primeB n)) ∧ Below w.heap.size w w' := by
  go_enter Tryd.func22, Tryd.ntmps22
  go_wp2_with fail
  go_loop [16] (fun c => ∃ i : Nat, c = .int .i64 i ∧ i ≤ 12 ∧ Hid (∀ j q, j < i → smallP[j]? = some q → n % q ≠ 0)) (fun c => (12 - intOf c).toNat)
  case atStart => exact ⟨0, rfl, by omega, mkHid (by omega)⟩
  case round =>
    obtain ⟨i, rfl, hi, hn⟩ := hrel
    by_cases hlt : i < 12
    · obtain ⟨p, hp, p0, p1⟩ := smallP_at i hlt
      have hix := ix12 i p hlt hp
      have HP := mkHid hp
      clear hp
      by_cases hd : n % p = 0
      · have HV := mkHid (primeB_div h1 h2 HP.out hd hn.out)
        have c1 : (n % p == 0) = true := by rw [beq_iff_eq]; exact hd
        clear hd
        go_wp2
        go_ret
        exact ⟨ret_bool HV.out.symm, (Below.refl _ _).alloc (Nat.le_refl _) _⟩
      · have HV : Hid (∀ j q, j < i + 1 → smallP[j]? = some q → n % q ≠ 0) := mkHid (fun j q hj hq => by
          rcases Nat.lt_or_ge j i with h | h
          · exact hn.out j q h hq
          · obtain rfl : j = i := by omega
            obtain rfl := Option.some.inj (HP.out.symm.trans hq)
            exact hd)
        have c1 : (n % p == 0) = false := by rw [beq_eq_false_iff_ne]; exact hd
        clear hd
        go_wp2
        go_round
        case rel => exact ⟨i + 1, by go_num, by omega, HV⟩
        case measure => simp [intOf]; omega
    · obtain rfl : i = 12 := by omega
      go_wp2_with fail
      obtain ⟨hb1, hb2⟩ := big_odd h1 hn.out
      have hT' : Tab (w.alloc (.cells #[.int .i64 2, .int .i64 3, .int .i64 5, .int .i64 7, .int .i64 11, .int .i64 13, .int .i64 17, .int .i64 19, .int .i64 23, .int .i64 29, .int .i64 31, .int .i64 37] 78)) := hT.step ((Below.refl _ _).alloc (Nat.le_refl _) _)
      have hBl := (Below.refl w.heap.size w).alloc (Nat.le_refl _) (.cells #[.int .i64 2, .int .i64 3, .int .i64 5, .int .i64 7, .int .i64 11, .int .i64 13, .int .i64 17, .int .i64 19, .int .i64 23, .int .i64 29, .int .i64 31, .int .i64 37] 78)
      generalize w.alloc (.cells #[.int .i64 2, .int .i64 3, .int .i64 5, .int .i64 7, .int .i64 11, .int .i64 13, .int .i64 17, .int .i64 19, .int .i64 23, .int .i64 29, .int .i64 31, .int .i64 37] 78) = wa at *
      go_loopw [28] (fun c wr => ∃ i : Nat, c = .int .i64 i ∧ i ≤ 12 ∧ Hid (∀ j q, j < i → smallP[j]? = some q → witB n q = false) ∧ Drew wa wr) (fun c _ => (12 - intOf c).toNat)
      case atStart => exact ⟨0, rfl, by omega, mkHid (by omega), Drew.refl _⟩
      case round =>
        obtain ⟨i, rfl, hi, hw, m, rfl⟩ := hrel
        by_cases hlt : i < 12
        · obtain ⟨p, hp, p0, p1⟩ := smallP_at i hlt
          have hix := ix12 i p hlt hp
          have HP := mkHid hp
          clear hp
          cases hd : witB n p
          · have HV : Hid (∀ j q, j < i + 1 → smallP[j]? = some q → witB n q = false) := mkHid (fun j q hj hq => by
              rcases Nat.lt_or_ge j i with h | h
              · exact hw.out j q h hq
              · obtain rfl : j = i := by omega
                obtain rfl := Option.some.inj (HP.out.symm.trans hq)
                exact hd)
            have HD := mkHid hd
            clear hd
            go_wp2_with fail
            refine (witness_any n p _ (hT'.drewN m) (by omega) h2 (by omega) (by omega)).mono ?_
            rintro e w' ⟨rfl, m, rfl⟩
            rw [HD.out]
            go_wp2
            go_roundw
            case rel => exact ⟨i + 1, by go_num, by omega, HV, Drew.of _ _⟩
            case measure => simp [intOf]; omega
          · have HV := mkHid (primeB_wit h1 h2 hn.out HP.out hd)
            have HD := mkHid hd
            clear hd
            go_wp2_with fail
            refine (witness_any n p _ (hT'.drewN m) (by omega) h2 (by omega) (by omega)).mono ?_
            rintro e w' ⟨rfl, m, rfl⟩
            rw [HD.out]
            go_wp2
            go_ret
            exact ⟨ret_bool HV.out.symm, below_drewN hBl _⟩
        · obtain rfl : i = 12 := by omega
          have HV := mkHid (primeB_yes h1 h2 hn.out hw.out)
          go_wp2
          go_ret
          exact ⟨ret_bool HV.out.symm, below_drewN hBl _⟩
theorem prime_any (n : Int) (w : World) (hT : Tab w) :
    Calls Tryd.prog 22 #[.int .i64 n] w fun e w' => e = .returned (.bool (primeB n)) ∧ Below w.heap.size w w' := by
  by_cases h : n < 2 ∨ 2305843009213693952 ≤ n
  · exact prime_lo n w h
  · exact prime_hi n w hT (by omega) (by omega)
end Go.Proofs.YtbllanmhbfnagaaDoor
