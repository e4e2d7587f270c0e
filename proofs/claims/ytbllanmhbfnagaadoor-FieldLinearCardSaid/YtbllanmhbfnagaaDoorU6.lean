/- witness, passes, the two tests of primality (walks). Prime of field (walk). Groups of field (walks). The reference's passes, bases, Prime (walks). -/
import Derived.Test.YtbllanmhbfnagaaDoorU5
import Derived.Test.YtbllanmhbfnagaaDoorU2
set_option linter.unusedVariables false
set_option linter.unusedSimpArgs false
namespace Go.Proofs.YtbllanmhbfnagaaDoor
open Go.RowKit

/-- The world holds the library's table for TrailingZeros64. -/
structure Tab (w : World) : Prop where
  cells : TabAt (Tryd.lays7n29_ren.g 1) Lib.deBruijn64tab w
  lt : Tryd.lays7n29_ren.g 1 < w.heap.size
theorem Tab.drewN {w : World} (h : Tab w) (m : Nat) : Tab (w.drewN m) := ⟨h.cells, h.lt⟩
theorem Tab.below {w w' : World} {B : Nat} (h : Tab w) (hb : Below B w w') (hB : Tryd.lays7n29_ren.g 1 < B) : Tab w' :=
  ⟨fun j hj => by rw [hb.cell (p := ⟨Tryd.lays7n29_ren.g 1, j, none⟩) hB]; exact h.cells j hj, Nat.lt_of_lt_of_le h.lt hb.size⟩
theorem Tab.step {w w' : World} (h : Tab w) (hb : Below w.heap.size w w') : Tab w' := h.below hb h.lt
theorem shr_toNat (a k : Nat) : ((a : Int) / 2 ^ k).toNat = a / 2 ^ k := by
  rw [show ((a : Int) / 2 ^ k) = ((a / 2 ^ k : Nat) : Int) by push_cast; rfl, Int.toNat_natCast]
set_option maxHeartbeats 1000000 in
theorem witness_any (n base : Int) (w : World) (hT : Tab w) (h1 : 3 ≤ n) (h2 : n < 2305843009213693952) (b0 : 0 ≤ base) (b1 : base < n) :
    Calls Tryd.prog 80 #[.int .i64 n, .int .u64 base] w fun e w' => e = .returned (.bool (witB n base)) ∧ Drew w w' := by
  obtain ⟨M, hM⟩ : ∃ M : Nat, (M : Int) = n - 1 := ⟨(n - 1).toNat, by omega⟩
  have hMt : (n - 1).toNat = M := by omega
  have TZ := mkHid (fun w hT => Tryd.bits_TrailingZeros64 M (by omega) w hT)
  obtain ⟨s1, s2, s3⟩ := ctz_split M (by omega) (by omega)
  have HK : Hid (Lib.ctz 64 (n - 1).toNat = Lib.ctz 64 M) := mkHid (by rw [hMt])
  have HD : Hid ((n - 1).toNat / 2 ^ Lib.ctz 64 M = M / 2 ^ Lib.ctz 64 M) := mkHid (by rw [hMt])
  generalize Lib.ctz 64 M = k at *
  have hde := mkHid (shr_toNat M k)
  have d0 : 0 ≤ (M : Int) / 2 ^ k := Int.ediv_nonneg (by omega) (Int.pow_nonneg (by omega))
  have d1 : (M : Int) / 2 ^ k ≤ M := Int.ediv_le_self _ (by omega)
  obtain ⟨p0, p1⟩ := powI_bd (show 1 ≤ n by omega) base (M / 2 ^ k)
  have HM := mkHid hM
  have hN : n - 1 = (M : Int) := hM.symm
  clear hM hMt s1 s2
  go_enter Tryd.func80, Tryd.ntmps80
  go_wp2_with fail
  refine (TZ.out _ (fun _ => hT.cells)).mono ?_
  rintro e w' ⟨rfl, rfl⟩
  go_wp2_with fail
  refine (power_any n base _ _ (by omega) h2 b0 b1 (by omega) (by omega)).mono ?_
  rintro e w' ⟨rfl, m, rfl⟩
  rw [hde.out]
  generalize hd : M / 2 ^ k = d at *
  have Hd := mkHid hd
  clear hd
  have st := mkHid (SqInv.start n base d)
  have HN := mkHid hN
  by_cases hx : powI n base d = 1
  · have c1 : (powI n base d == 1) = true := by rw [beq_iff_eq]; exact hx
    have HX := mkHid (wit_one HK.out HD.out hx)
    clear hx st
    generalize powI n base d = x at *
    go_wp2
    go_ret
    exact ⟨ret_bool HX.out.symm, Drew.of _ _⟩
  · have c1 : (powI n base d == 1) = false := by rw [beq_eq_false_iff_ne]; exact hx
    have HX : Hid (∀ x, SqInv n base d k x → witB n base = true) := mkHid (fun x hs => wit_yes HK.out HD.out hx hs)
    clear hx
    generalize hx0 : powI n base d = x at *
    clear hx0
    go_wp2_with fail
    go_loopw [6, 22] (fun u c wr => ∃ (x' : Int) (i : Nat), u = .int .u64 x' ∧ c = .int .i64 i ∧ i ≤ k ∧ 0 ≤ x' ∧ x' < n ∧ Hid (SqInv n base d i x') ∧ Drew w' wr) (fun _ c _ => (k - intOf c).toNat)
    case atStart => exact ⟨_, 0, rfl, rfl, by omega, p0, p1, st.out, Drew.of _ _⟩
    case round =>
      obtain ⟨x', i, rfl, rfl, hi, x0, x1, hs, m', rfl⟩ := hrel
      clear p0 p1 st c1
      by_cases hlt : i < k
      · by_cases hx : x' = M
        · have HV := mkHid (wit_hit HK.out HD.out hs.out hlt (by omega))
          have c1 : (x' == (M : Int)) = true := by rw [beq_iff_eq]; exact hx
          clear hx
          go_wp2
          go_ret
          exact ⟨ret_bool HV.out.symm, Drew.of _ _⟩
        · have HV := mkHid (hs.out.next (by omega))
          have c1 : (x' == (M : Int)) = false := by rw [beq_eq_false_iff_ne]; exact hx
          clear hx
          obtain ⟨q0, q1⟩ := emod_bd (x' * x') n (by omega)
          go_wp2_with fail
          refine (product_any n x' x' _ (by omega) h2 x0 x1 x0 x1).mono ?_
          rintro e w' ⟨rfl, m, rfl⟩
          go_wp2
          go_roundw
          case rel => exact ⟨_, i + 1, rfl, by go_num, by omega, q0, q1, HV.out, Drew.of _ _⟩
          case measure => simp [intOf]; omega
      · obtain rfl : i = k := by omega
        have HV := mkHid (HX.out _ hs.out)
        go_wp2
        go_ret
        exact ⟨ret_bool HV.out.symm, Drew.of _ _⟩
end Go.Proofs.YtbllanmhbfnagaaDoor
namespace Go.Proofs.YtbllanmhbfnagaaDoor
open Go.RowKit

set_option maxHeartbeats 400000 in
theorem prime_lo (n : Int) (w : World) (h : n < 2 ∨ 2305843009213693952 ≤ n) :
    Calls Tryd.prog 22 #[.int .i64 n] w fun e w' => e = .returned (.bool (primeB n)) ∧ Below w.heap.size w w' := by
  have HB := mkHid (primeB_lo h)
  by_cases h1 : n < 2
  all_goals
    go_enter Tryd.func22, Tryd.ntmps22
    go_wp2
    go_ret
    exact ⟨ret_bool HB.out.symm, Below.refl _ _⟩
theorem ix12 (i : Nat) (p : Int) (hi : i < 12) (hp : smallP[i]? = some p) (w : World) :
    Sem.run Tryd.prog (Instr.index 78 (.agg #[.int .i64 2, .int .i64 3, .int .i64 5, .int .i64 7, .int .i64 11, .int .i64 13, .int .i64 17, .int .i64 19, .int .i64 23, .int .i64 29, .int .i64 31, .int .i64 37]) (.int .i64 i)) w = .ok (.int .i64 p) w := by
  have h : ∀ i : Fin 12, ∀ p, smallP[i.val]? = some p → Sem.run Tryd.prog (Instr.index 78 (.agg #[.int .i64 2, .int .i64 3, .int .i64 5, .int .i64 7, .int .i64 11, .int .i64 13, .int .i64 17, .int .i64 19, .int .i64 23, .int .i64 29, .int .i64 31, .int .i64 37]) (.int .i64 (i.val : Int))) w = .ok (.int .i64 p) w := by
    intro i p hp
    match i, hp with
    | ⟨0, _⟩, hp => (obtain rfl : (2 : Int) = p := Option.some.inj hp); show Sem.run _ _ _ = _; kernel_rfl
    | ⟨1, _⟩, hp => (obtain rfl : (3 : Int) = p := Option.some.inj hp); show Sem.run _ _ _ = _; kernel_rfl
    | ⟨2, _⟩, hp => (obtain rfl : (5 : Int) = p := Option.some.inj hp); show Sem.run _ _ _ = _; kernel_rfl
    | ⟨3, _⟩, hp => (obtain rfl : (7 : Int) = p := Option.some.inj hp); show Sem.run _ _ _ = _; kernel_rfl
    | ⟨4, _⟩, hp => (obtain rfl : (11 : Int) = p := Option.some.inj hp); show Sem.run _ _ _ = _; kernel_rfl
    | ⟨5, _⟩, hp => (obtain rfl : (13 : Int) = p := Option.some.inj hp); show Sem.run _ _ _ = _; kernel_rfl
    | ⟨6, _⟩, hp => (obtain rfl : (17 : Int) = p := Option.some.inj hp); show Sem.run _ _ _ = _; kernel_rfl
    | ⟨7, _⟩, hp => (obtain rfl : (19 : Int) = p := Option.some.inj hp); show Sem.run _ _ _ = _; kernel_rfl
    | ⟨8, _⟩, hp => (obtain rfl : (23 : Int) = p := Option.some.inj hp); show Sem.run _ _ _ = _; kernel_rfl
    | ⟨9, _⟩, hp => (obtain rfl : (29 : Int) = p := Option.some.inj hp); show Sem.run _ _ _ = _; kernel_rfl
    | ⟨10, _⟩, hp => (obtain rfl : (31 : Int) = p := Option.some.inj hp); show Sem.run _ _ _ = _; kernel_rfl
    | ⟨11, _⟩, hp => (obtain rfl : (37 : Int) = p := Option.some.inj hp); show Sem.run _ _ _ = _; kernel_rfl
  exact h ⟨i, hi⟩ p hp
set_option maxHeartbeats 1000000 in
theorem prime_hi (n : Int) (w : World) (hT : Tab w) (h1 : 2 ≤ n) (h2 : n < 2305843009213693952) :
    Calls Tryd.prog 22 #[.int .i64 n] w fun e w' => e = .returned (.bool (primeB n)) ∧ Below w.heap.size w w' := by
  go_enter Tryd.func22, Tryd.ntmps22
  go_wp2_with fail
  go_loop [16] (fun c => ∃ i : Nat, c = .int .i64 i ∧ i ≤ 12 ∧ Hid (∀ j q, j < i → smallP[j]? = some q → n % q ≠ 0)) (fun c => (12 - intOf c).toNat)
  case atStart => exact ⟨0, rfl, by omega, mkHid (by omega)⟩
  case round =>
    obtain ⟨i, rfl, hi, hn⟩ := hrel
    by_cases hlt : i < 12
    · obtain ⟨p, hp, p0, p1⟩ := smallP_at i hlt
      have hix := ix12 i p hlt hp
      have HP := mkHid hp
      clear hp
      by_cases hd : n % p = 0
      · have HV := mkHid (primeB_div h1 h2 HP.out hd hn.out)
        have c1 : (n % p == 0) = true := by rw [beq_iff_eq]; exact hd
        clear hd
        go_wp2
        go_ret
        exact ⟨ret_bool HV.out.symm, (Below.refl _ _).alloc (Nat.le_refl _) _⟩
      · have HV : Hid (∀ j q, j < i + 1 → smallP[j]? = some q → n % q ≠ 0) := mkHid (fun j q hj hq => by
          rcases Nat.lt_or_ge j i with h | h
          · exact hn.out j q h hq
          · obtain rfl : j = i := by omega
            obtain rfl := Option.some.inj (HP.out.symm.trans hq)
            exact hd)
        have c1 : (n % p == 0) = false := by rw [beq_eq_false_iff_ne]; exact hd
        clear hd
        go_wp2
        go_round
        case rel => exact ⟨i + 1, by go_num, by omega, HV⟩
        case measure => simp [intOf]; omega
    · obtain rfl : i = 12 := by omega
      go_wp2_with fail
      obtain ⟨hb1, hb2⟩ := big_odd h1 hn.out
      have hT' : Tab (w.alloc (.cells #[.int .i64 2, .int .i64 3, .int .i64 5, .int .i64 7, .int .i64 11, .int .i64 13, .int .i64 17, .int .i64 19, .int .i64 23, .int .i64 29, .int .i64 31, .int .i64 37] 78)) := hT.step ((Below.refl _ _).alloc (Nat.le_refl _) _)
      have hBl := (Below.refl w.heap.size w).alloc (Nat.le_refl _) (.cells #[.int .i64 2, .int .i64 3, .int .i64 5, .int .i64 7, .int .i64 11, .int .i64 13, .int .i64 17, .int .i64 19, .int .i64 23, .int .i64 29, .int .i64 31, .int .i64 37] 78)
      generalize w.alloc (.cells #[.int .i64 2, .int .i64 3, .int .i64 5, .int .i64 7, .int .i64 11, .int .i64 13, .int .i64 17, .int .i64 19, .int .i64 23, .int .i64 29, .int .i64 31, .int .i64 37] 78) = wa at *
      go_loopw [28] (fun c wr => ∃ i : Nat, c = .int .i64 i ∧ i ≤ 12 ∧ Hid (∀ j q, j < i → smallP[j]? = some q → witB n q = false) ∧ Drew wa wr) (fun c _ => (12 - intOf c).toNat)
      case atStart => exact ⟨0, rfl, by omega, mkHid (by omega), Drew.refl _⟩
      case round =>
        obtain ⟨i, rfl, hi, hw, m, rfl⟩ := hrel
        by_cases hlt : i < 12
        · obtain ⟨p, hp, p0, p1⟩ := smallP_at i hlt
          have hix := ix12 i p hlt hp
          have HP := mkHid hp
          clear hp
          cases hd : witB n p
          · have HV : Hid (∀ j q, j < i + 1 → smallP[j]? = some q → witB n q = false) := mkHid (fun j q hj hq => by
              rcases Nat.lt_or_ge j i with h | h
              · exact hw.out j q h hq
              · obtain rfl : j = i := by omega
                obtain rfl := Option.some.inj (HP.out.symm.trans hq)
                exact hd)
            have HD := mkHid hd
            clear hd
            go_wp2_with fail
            refine (witness_any n p _ (hT'.drewN m) (by omega) h2 (by omega) (by omega)).mono ?_
            rintro e w' ⟨rfl, m, rfl⟩
            rw [HD.out]
            go_wp2
            go_roundw
            case rel => exact ⟨i + 1, by go_num, by omega, HV, Drew.of _ _⟩
            case measure => simp [intOf]; omega
          · have HV := mkHid (primeB_wit h1 h2 hn.out HP.out hd)
            have HD := mkHid hd
            clear hd
            go_wp2_with fail
            refine (witness_any n p _ (hT'.drewN m) (by omega) h2 (by omega) (by omega)).mono ?_
            rintro e w' ⟨rfl, m, rfl⟩
            rw [HD.out]
            go_wp2
            go_ret
            exact ⟨ret_bool HV.out.symm, below_drewN hBl _⟩
        · obtain rfl : i = 12 := by omega
          have HV := mkHid (primeB_yes h1 h2 hn.out hw.out)
          go_wp2
          go_ret
          exact ⟨ret_bool HV.out.symm, below_drewN hBl _⟩
theorem prime_any (n : Int) (w : World) (hT : Tab w) :
    Calls Tryd.prog 22 #[.int .i64 n] w fun e w' => e = .returned (.bool (primeB n)) ∧ Below w.heap.size w w' := by
  by_cases h : n < 2 ∨ 2305843009213693952 ≤ n
  · exact prime_lo n w h
  · exact prime_hi n w hT (by omega) (by omega)
end Go.Proofs.YtbllanmhbfnagaaDoor
namespace Go.Proofs.YtbllanmhbfnagaaDoor
open Go.RowKit
theorem vg_no {P Q G : Int} (h : ¬ VG P Q G) : vgB P Q G = false := by
  cases hv : vgB P Q G with
  | false => rfl
  | true => exact absurd ((vgB_iff P Q G).1 hv) h
theorem vg_eq {P Q G : Int} (h1 : 5 ≤ Q) (h2 : Q < 1152921504606846976) (h3 : P = 2 * Q + 1) (h4 : 2 ≤ G) (h5 : G < P) : vgB P Q G = (primeB Q && primeB P && (powS P G Q == 1)) := by
  unfold vgB
  rw [decide_eq_true h1, decide_eq_true h2, decide_eq_true h3, decide_eq_true h4, decide_eq_true h5]
  rfl
/-- The cells of a group that was boxed. -/
structure GrpAt (w : World) (A : Nat) (P Q G : Int) : Prop where
  p : w.cell? ⟨A, 0, none⟩ = some (.int .i64 P)
  q : w.cell? ⟨A, 1, none⟩ = some (.int .i64 Q)
  g : w.cell? ⟨A, 2, none⟩ = some (.int .i64 G)
  lt : A < w.heap.size
theorem GrpAt.new (w : World) (t : TypeId) (P Q G : Int) : GrpAt (w.alloc (.cells #[.int .i64 P, .int .i64 Q, .int .i64 G] t)) w.heap.size P Q G := by
  have h := heap_alloc_new w (.cells #[.int .i64 P, .int .i64 Q, .int .i64 G] t)
  exact ⟨by simp only [World.cell?, h]; rfl, by simp only [World.cell?, h]; rfl, by simp only [World.cell?, h]; rfl, by simp⟩
theorem GrpAt.of_block {w w' : World} {A : Nat} {P Q G : Int} (h : GrpAt w A P Q G) (hb : w'.heap[A]? = w.heap[A]?) (hs : w.heap.size ≤ w'.heap.size) : GrpAt w' A P Q G :=
  ⟨(World.cell?_of_block (a := ⟨A, 0, none⟩) hb).trans h.p, (World.cell?_of_block (a := ⟨A, 1, none⟩) hb).trans h.q, (World.cell?_of_block (a := ⟨A, 2, none⟩) hb).trans h.g, Nat.lt_of_lt_of_le h.lt hs⟩
theorem GrpAt.below {w w' : World} {A : Nat} {P Q G : Int} (h : GrpAt w A P Q G) (hb : Below w.heap.size w w') : GrpAt w' A P Q G := h.of_block (hb.block A h.lt) hb.size
theorem GrpAt.drewN {w : World} {A : Nat} {P Q G : Int} (h : GrpAt w A P Q G) (m : Nat) : GrpAt (w.drewN m) A P Q G := h.of_block rfl (Nat.le_refl _)
set_option maxHeartbeats 2000000 in
set_option maxRecDepth 100000 in
theorem valid_group_any (P Q G : Int) (w : World) (hT : Tab w) :
    Calls Tryd.prog 41 #[.agg #[.int .i64 P, .int .i64 Q, .int .i64 G]] w fun e w' => e = .returned (.bool (vgB P Q G)) ∧ Below w.heap.size w w' := by
  have HT := mkHid hT
  have B1 := mkHid ((Below.refl w.heap.size w).alloc (Nat.le_refl _) (.cells #[.int .i64 P, .int .i64 Q, .int .i64 G] 38))
  have G1 := mkHid (GrpAt.new w 38 P Q G)
  clear hT
  by_cases h1 : Q < 5
  · have hv := mkHid (vg_no (P := P) (Q := Q) (G := G) (fun h => by have := h.q5; omega))
    go_enter Tryd.func41, Tryd.ntmps41
    go_wp2
    go_ret
    exact ⟨ret_bool hv.out.symm, B1.out⟩
  by_cases h2 : 1152921504606846976 ≤ Q
  · have hv := mkHid (vg_no (P := P) (Q := Q) (G := G) (fun h => by have := h.qm; omega))
    go_enter Tryd.func41, Tryd.ntmps41
    go_wp2
    go_ret
    exact ⟨ret_bool hv.out.symm, B1.out⟩
  by_cases h3 : P = 2 * Q + 1
  · subst h3
    by_cases h4 : G < 2
    · have hv := mkHid (vg_no (P := 2 * Q + 1) (Q := Q) (G := G) (fun h => by have := h.g2; omega))
      go_enter Tryd.func41, Tryd.ntmps41
      go_wp2
      go_ret
      exact ⟨ret_bool hv.out.symm, B1.out⟩
    by_cases h5 : 2 * Q + 1 ≤ G
    · have hv := mkHid (vg_no (P := 2 * Q + 1) (Q := Q) (G := G) (fun h => by have := h.gp; omega))
      go_enter Tryd.func41, Tryd.ntmps41
      go_wp2
      go_ret
      exact ⟨ret_bool hv.out.symm, B1.out⟩
    have HE := mkHid (vg_eq (P := 2 * Q + 1) (Q := Q) (G := G) (by omega) (by omega) rfl (by omega) (by omega))
    have c5 : (5 : Int) ≤ Q := by omega
    have c6 : Q < 1152921504606846976 := by omega
    cases hq : primeB Q with
    | false =>
      have HQ := mkHid hq
      clear hq
      go_enter Tryd.func41, Tryd.ntmps41
      go_wp2_with fail
      refine (prime_any Q _ (HT.out.step ((Below.refl _ w).alloc (Nat.le_refl _) _))).mono ?_
      rintro e w2 ⟨rfl, b2⟩
      rw [HQ.out]
      go_wp2
      go_ret
      exact ⟨ret_bool (by rw [HE.out, HQ.out]; rfl), B1.out.trans (b2.mono B1.out.size)⟩
    | true =>
      have HQ := mkHid hq
      clear hq
      cases hp : primeB (2 * Q + 1) with
      | false =>
        have HP := mkHid hp
        clear hp
        go_enter Tryd.func41, Tryd.ntmps41
        go_wp2_with fail
        refine (prime_any Q _ (HT.out.step ((Below.refl _ w).alloc (Nat.le_refl _) _))).mono ?_
        rintro e w2 ⟨rfl, b2⟩
        rw [HQ.out]
        have g2 := G1.out.below b2
        have B2 := mkHid (B1.out.trans (b2.mono B1.out.size))
        have T2 := mkHid ((HT.out.step ((Below.refl _ w).alloc (Nat.le_refl _) (.cells #[.int .i64 (2 * Q + 1), .int .i64 Q, .int .i64 G] 38))).step b2)
        obtain ⟨g2p, g2q, g2g, g2l⟩ := g2
        clear b2
        go_wp2_with fail
        refine (prime_any (2 * Q + 1) _ T2.out).mono ?_
        rintro e w3 ⟨rfl, b3⟩
        rw [HP.out]
        clear g2p g2q g2g
        go_wp2
        go_ret
        exact ⟨ret_bool (by rw [HE.out, HQ.out, HP.out]; rfl), B2.out.trans (b3.mono B2.out.size)⟩
      | true =>
        have HP := mkHid hp
        clear hp
        cases ho : (powS (2 * Q + 1) G Q == 1) with
        | false =>
          have HO := mkHid ho
          clear ho
          go_enter Tryd.func41, Tryd.ntmps41
          go_wp2_with fail
          refine (prime_any Q _ (HT.out.step ((Below.refl _ w).alloc (Nat.le_refl _) _))).mono ?_
          rintro e w2 ⟨rfl, b2⟩
          rw [HQ.out]
          have g2 := G1.out.below b2
          have G2 := mkHid g2
          have B2 := mkHid (B1.out.trans (b2.mono B1.out.size))
          have T2 := mkHid ((HT.out.step ((Below.refl _ w).alloc (Nat.le_refl _) (.cells #[.int .i64 (2 * Q + 1), .int .i64 Q, .int .i64 G] 38))).step b2)
          obtain ⟨g2p, g2q, g2g, g2l⟩ := g2
          clear b2
          go_wp2_with fail
          refine (prime_any (2 * Q + 1) _ T2.out).mono ?_
          rintro e w3 ⟨rfl, b3⟩
          rw [HP.out]
          clear g2p g2q g2g
          obtain ⟨g3p, g3q, g3g, g3l⟩ := G2.out.below b3
          have B3 := mkHid (B2.out.trans (b3.mono B2.out.size))
          clear b3
          go_wp2_with fail
          refine (pow_any (2 * Q + 1) G Q _ (by omega) (by omega)).mono ?_
          rintro e w4 ⟨rfl, m, rfl⟩
          have hoo := HO.out
          generalize powS (2 * Q + 1) G Q = x at *
          go_wp2
          go_ret
          exact ⟨ret_bool (by rw [HE.out, HQ.out, HP.out, HO.out]; rfl), below_drewN B3.out m⟩
        | true =>
          have HO := mkHid ho
          clear ho
          go_enter Tryd.func41, Tryd.ntmps41
          go_wp2_with fail
          refine (prime_any Q _ (HT.out.step ((Below.refl _ w).alloc (Nat.le_refl _) _))).mono ?_
          rintro e w2 ⟨rfl, b2⟩
          rw [HQ.out]
          have g2 := G1.out.below b2
          have G2 := mkHid g2
          have B2 := mkHid (B1.out.trans (b2.mono B1.out.size))
          have T2 := mkHid ((HT.out.step ((Below.refl _ w).alloc (Nat.le_refl _) (.cells #[.int .i64 (2 * Q + 1), .int .i64 Q, .int .i64 G] 38))).step b2)
          obtain ⟨g2p, g2q, g2g, g2l⟩ := g2
          clear b2
          go_wp2_with fail
          refine (prime_any (2 * Q + 1) _ T2.out).mono ?_
          rintro e w3 ⟨rfl, b3⟩
          rw [HP.out]
          clear g2p g2q g2g
          obtain ⟨g3p, g3q, g3g, g3l⟩ := G2.out.below b3
          have B3 := mkHid (B2.out.trans (b3.mono B2.out.size))
          clear b3
          go_wp2_with fail
          refine (pow_any (2 * Q + 1) G Q _ (by omega) (by omega)).mono ?_
          rintro e w4 ⟨rfl, m, rfl⟩
          have hoo := HO.out
          generalize powS (2 * Q + 1) G Q = x at *
          go_wp2
          go_ret
          exact ⟨ret_bool (by rw [HE.out, HQ.out, HP.out, HO.out]; rfl), below_drewN B3.out m⟩
  · have hv := mkHid (vg_no (P := P) (Q := Q) (G := G) (fun h => by have := h.p; omega))
    go_enter Tryd.func41, Tryd.ntmps41
    go_wp2
    go_ret
    exact ⟨ret_bool hv.out.symm, B1.out⟩
end Go.Proofs.YtbllanmhbfnagaaDoor
namespace Go.Proofs.YtbllanmhbfnagaaDoor
open Go.RowKit

set_option maxHeartbeats 1000000 in
theorem passes_any (n base : Int) (w : World) (h1 : 3 ≤ n) (h2 : n < 2305843009213693952) (ho : n % 2 = 1) :
    Calls Tryd.prog 82 #[.int .i64 n, .int .i64 base] w fun e w' => e = .returned (.bool (!witB n base)) ∧ w = w' := by
  obtain ⟨M, hM⟩ : ∃ M : Nat, (M : Int) = n - 1 := ⟨(n - 1).toNat, by omega⟩
  have hMt : (n - 1).toNat = M := by omega
  have hm := mkHid (modB_iff.2 ⟨show 1 ≤ n by omega, h2⟩)
  have hN : n - 1 = (M : Int) := hM.symm
  obtain ⟨s1, s2, s3⟩ := ctz_split M (by omega) (by omega)
  have HK : Hid (Lib.ctz 64 (n - 1).toNat = Lib.ctz 64 M) := mkHid (by rw [hMt])
  have HD : Hid ((n - 1).toNat / 2 ^ Lib.ctz 64 M = M / 2 ^ Lib.ctz 64 M) := mkHid (by rw [hMt])
  generalize Lib.ctz 64 M = k at *
  generalize M / 2 ^ k = d at *
  have S1 := mkHid s1
  have S2 := mkHid s2
  have HO := mkHid ho
  clear hM hMt s1 s2 ho
  go_enter Tryd.func82, Tryd.ntmps82
  go_wp2_with fail
  go_loop [5, 6] (fun u v => ∃ x y : Nat, u = .int .i64 x ∧ v = .int .i64 y ∧ Hid (2 ^ y * x = M) ∧ 1 ≤ x ∧ x ≤ M ∧ y + x ≤ M) (fun u _ => (intOf u).toNat)
  case atStart => exact ⟨M, 0, rfl, rfl, mkHid (by omega), by omega, by omega, by omega⟩
  case round =>
    obtain ⟨x, y, rfl, rfl, hxy, x0, x1, x2⟩ := hrel
    by_cases hp : x % 2 = 0
    · have c1 : ((x : Int) % 2 == 0) = true := by rw [beq_iff_eq]; omega
      have HP := mkHid hp
      have hx : x / 2 * 2 = x := by omega
      have HX := mkHid hx
      have hx3 : 1 ≤ x / 2 := by omega
      have hx4 : x / 2 + y + 1 ≤ M := by omega
      clear hp hx
      go_wp2
      go_round
      case rel => exact ⟨x / 2, y + 1, by go_num, by go_num, mkHid (by rw [← hxy.out, Nat.pow_succ]; conv => rhs; rw [← HX.out]
                                                                       rw [Nat.mul_assoc, Nat.mul_comm 2]), by omega, by omega, by omega⟩
      case measure => simp [intOf]; omega
    · have c1 : ((x : Int) % 2 == 0) = false := by rw [beq_eq_false_iff_ne]; omega
      obtain ⟨rfl, rfl⟩ := odd_part_unique y k x d (hxy.out.trans S1.out) (by omega) S2.out
      clear hp
      obtain ⟨p0, p1⟩ := powI_bd (show 1 ≤ n by omega) base x
      have st := mkHid (SqInv.start n base x)
      by_cases hx : powI n base x = 1
      · have c2 : (powI n base x == 1) = true := by rw [beq_iff_eq]; exact hx
        have HX := mkHid (wit_one HK.out HD.out hx)
        clear hx
        go_wp2_with fail
        refine (rpower_any n base x _ hm.out (by omega) (by omega)).mono ?_
        rintro e w' ⟨rfl, rfl⟩
        rw [Int.toNat_natCast]
        generalize powI n base x = z at *
        go_wp2
        go_ret
        exact ⟨ret_bool (by rw [HX.out]; rfl), rfl⟩
      · have c2 : (powI n base x == 1) = false := by rw [beq_eq_false_iff_ne]; exact hx
        have HX : Hid (∀ z, SqInv n base x y z → witB n base = true) := mkHid (fun z hs => wit_yes HK.out HD.out hx hs)
        clear hx
        go_wp2_with fail
        refine (rpower_any n base x _ hm.out (by omega) (by omega)).mono ?_
        rintro e w' ⟨rfl, rfl⟩
        rw [Int.toNat_natCast]
        generalize hz : powI n base x = z at *
        clear hz
        go_wp2_with fail
        clear c1 c2
        go_loop [7, 8] (fun u c => ∃ (x' : Int) (i : Nat), u = .int .i64 x' ∧ c = .int .i64 i ∧ i ≤ y ∧ 0 ≤ x' ∧ x' < n ∧ Hid (SqInv n base x i x')) (fun _ c => (y - intOf c).toNat)
        case atStart => exact ⟨_, 0, rfl, rfl, by omega, p0, p1, st.out⟩
        case round =>
          obtain ⟨x', i, rfl, rfl, hi, y0, y1, hs⟩ := hrel
          clear p0 p1 st
          by_cases hlt : i < y
          · by_cases hx : x' = M
            · have HV := mkHid (wit_hit HK.out HD.out hs.out hlt (by omega))
              have c1 : (x' == (M : Int)) = true := by rw [beq_iff_eq]; exact hx
              clear hx
              go_wp2
              go_ret
              exact ⟨ret_bool (by rw [HV.out]; rfl), rfl⟩
            · have HV := mkHid (hs.out.next (by omega))
              have c1 : (x' == (M : Int)) = false := by rw [beq_eq_false_iff_ne]; exact hx
              clear hx
              obtain ⟨q0, q1⟩ := emod_bd (x' * x') n (by omega)
              go_wp2_with fail
              refine (rmul_any n x' x' _).mono ?_
              rintro e w' ⟨rfl, rfl⟩
              rw [mulI_of hm.out]
              go_wp2
              go_round
              case rel => exact ⟨_, i + 1, rfl, by go_num, by omega, q0, q1, HV.out⟩
              case measure => simp [intOf]; omega
          · obtain rfl : i = y := by omega
            have HV := mkHid (HX.out _ hs.out)
            go_wp2
            go_ret
            exact ⟨ret_bool (by rw [HV.out]; rfl), rfl⟩
set_option maxHeartbeats 400000 in
theorem bases_any (w : World) :
    Calls Tryd.prog 81 #[] w fun e w' => e = .returned (.slice (some ⟨w.heap.size, 0, none⟩) 12 12) ∧ w' = w.alloc (.cells #[.int .i64 2, .int .i64 3, .int .i64 5, .int .i64 7, .int .i64 11, .int .i64 13, .int .i64 17, .int .i64 19, .int .i64 23, .int .i64 29, .int .i64 31, .int .i64 37] 3) := by
  go_enter Tryd.func81, Tryd.ntmps81
  go_wp2
  go_ret
  exact ⟨rfl, rfl⟩
set_option maxHeartbeats 400000 in
theorem rprime_lo (n : Int) (w : World) (h : n < 2 ∨ 2305843009213693952 ≤ n) :
    Calls Tryd.prog 23 #[.int .i64 n] w fun e w' => e = .returned (.bool (primeB n)) ∧ Below w.heap.size w w' := by
  have HB := mkHid (primeB_lo h)
  by_cases h1 : n < 2
  all_goals
    go_enter Tryd.func23, Tryd.ntmps23
    go_wp2
    go_ret
    exact ⟨ret_bool HB.out.symm, Below.refl _ _⟩
theorem cells12 (w : World) (i : Nat) (p : Int) (hi : i < 12) (hp : smallP[i]? = some p) : (w.alloc (.cells #[.int .i64 2, .int .i64 3, .int .i64 5, .int .i64 7, .int .i64 11, .int .i64 13, .int .i64 17, .int .i64 19, .int .i64 23, .int .i64 29, .int .i64 31, .int .i64 37] 3)).cell? ⟨w.heap.size, i, none⟩ = some (.int .i64 p) := by
  have h : ∀ i : Fin 12, ∀ p, smallP[i.val]? = some p → (w.alloc (.cells #[.int .i64 2, .int .i64 3, .int .i64 5, .int .i64 7, .int .i64 11, .int .i64 13, .int .i64 17, .int .i64 19, .int .i64 23, .int .i64 29, .int .i64 31, .int .i64 37] 3)).cell? ⟨w.heap.size, i.val, none⟩ = some (.int .i64 p) := by
    intro i p hp
    match i, hp with
    | ⟨0, _⟩, hp => (obtain rfl : (2 : Int) = p := Option.some.inj hp); go_simp
    | ⟨1, _⟩, hp => (obtain rfl : (3 : Int) = p := Option.some.inj hp); go_simp
    | ⟨2, _⟩, hp => (obtain rfl : (5 : Int) = p := Option.some.inj hp); go_simp
    | ⟨3, _⟩, hp => (obtain rfl : (7 : Int) = p := Option.some.inj hp); go_simp
    | ⟨4, _⟩, hp => (obtain rfl : (11 : Int) = p := Option.some.inj hp); go_simp
    | ⟨5, _⟩, hp => (obtain rfl : (13 : Int) = p := Option.some.inj hp); go_simp
    | ⟨6, _⟩, hp => (obtain rfl : (17 : Int) = p := Option.some.inj hp); go_simp
    | ⟨7, _⟩, hp => (obtain rfl : (19 : Int) = p := Option.some.inj hp); go_simp
    | ⟨8, _⟩, hp => (obtain rfl : (23 : Int) = p := Option.some.inj hp); go_simp
    | ⟨9, _⟩, hp => (obtain rfl : (29 : Int) = p := Option.some.inj hp); go_simp
    | ⟨10, _⟩, hp => (obtain rfl : (31 : Int) = p := Option.some.inj hp); go_simp
    | ⟨11, _⟩, hp => (obtain rfl : (37 : Int) = p := Option.some.inj hp); go_simp
  exact h ⟨i, hi⟩ p hp
set_option maxHeartbeats 1000000 in
theorem rprime_hi (n : Int) (w : World) (h1 : 2 ≤ n) (h2 : n < 2305843009213693952) :
    Calls Tryd.prog 23 #[.int .i64 n] w fun e w' => e = .returned (.bool (primeB n)) ∧ Below w.heap.size w w' := by
  go_enter Tryd.func23, Tryd.ntmps23
  go_wp2_with fail
  refine (bases_any _).mono ?_
  rintro e w' ⟨rfl, rfl⟩
  go_wp2_with fail
  have hBl := (Below.refl w.heap.size w).alloc (Nat.le_refl _) (.cells #[.int .i64 2, .int .i64 3, .int .i64 5, .int .i64 7, .int .i64 11, .int .i64 13, .int .i64 17, .int .i64 19, .int .i64 23, .int .i64 29, .int .i64 31, .int .i64 37] 3)
  have hc := mkHid (cells12 w)
  generalize w.alloc (.cells #[.int .i64 2, .int .i64 3, .int .i64 5, .int .i64 7, .int .i64 11, .int .i64 13, .int .i64 17, .int .i64 19, .int .i64 23, .int .i64 29, .int .i64 31, .int .i64 37] 3) = wa at *
  go_loop [4] (fun c => ∃ i : Nat, c = .int .i64 i ∧ i ≤ 12 ∧ Hid (∀ j q, j < i → smallP[j]? = some q → n % q ≠ 0)) (fun c => (12 - intOf c).toNat)
  case atStart => exact ⟨0, rfl, by omega, mkHid (by omega)⟩
  case round =>
    obtain ⟨i, rfl, hi, hn⟩ := hrel
    by_cases hlt : i < 12
    · obtain ⟨p, hp, p0, p1⟩ := smallP_at i hlt
      have hix := hc.out i p hlt hp
      have HP := mkHid hp
      clear hp
      by_cases hd : n % p = 0
      · have HV := mkHid (primeB_div h1 h2 HP.out hd hn.out)
        have c1 : (n % p == 0) = true := by rw [beq_iff_eq]; exact hd
        clear hd
        go_wp2
        go_ret
        exact ⟨ret_bool HV.out.symm, hBl⟩
      · have HV : Hid (∀ j q, j < i + 1 → smallP[j]? = some q → n % q ≠ 0) := mkHid (fun j q hj hq => by
          rcases Nat.lt_or_ge j i with h | h
          · exact hn.out j q h hq
          · obtain rfl : j = i := by omega
            obtain rfl := Option.some.inj (HP.out.symm.trans hq)
            exact hd)
        have c1 : (n % p == 0) = false := by rw [beq_eq_false_iff_ne]; exact hd
        clear hd
        go_wp2
        go_round
        case rel => exact ⟨i + 1, by go_num, by omega, HV⟩
        case measure => simp [intOf]; omega
    · obtain rfl : i = 12 := by omega
      obtain ⟨hb1, hb2⟩ := big_odd h1 hn.out
      have HO := mkHid hb2
      clear hb2
      go_wp2_with fail
      go_loop [5] (fun c => ∃ i : Nat, c = .int .i64 i ∧ i ≤ 12 ∧ Hid (∀ j q, j < i → smallP[j]? = some q → witB n q = false)) (fun c => (12 - intOf c).toNat)
      case atStart => exact ⟨0, rfl, by omega, mkHid (by omega)⟩
      case round =>
        obtain ⟨i, rfl, hi, hw⟩ := hrel
        by_cases hlt : i < 12
        · obtain ⟨p, hp, p0, p1⟩ := smallP_at i hlt
          have hix := hc.out i p hlt hp
          have HP := mkHid hp
          clear hp
          cases hd : witB n p
          · have HV : Hid (∀ j q, j < i + 1 → smallP[j]? = some q → witB n q = false) := mkHid (fun j q hj hq => by
              rcases Nat.lt_or_ge j i with h | h
              · exact hw.out j q h hq
              · obtain rfl : j = i := by omega
                obtain rfl := Option.some.inj (HP.out.symm.trans hq)
                exact hd)
            have HD := mkHid hd
            clear hd
            go_wp2_with fail
            refine (passes_any n p _ (by omega) h2 HO.out).mono ?_
            rintro e w' ⟨rfl, rfl⟩
            rw [HD.out]
            go_wp2
            go_round
            case rel => exact ⟨i + 1, by go_num, by omega, HV⟩
            case measure => simp [intOf]; omega
          · have HV := mkHid (primeB_wit h1 h2 hn.out HP.out hd)
            have HD := mkHid hd
            clear hd
            go_wp2_with fail
            refine (passes_any n p _ (by omega) h2 HO.out).mono ?_
            rintro e w' ⟨rfl, rfl⟩
            rw [HD.out]
            go_wp2
            go_ret
            exact ⟨ret_bool HV.out.symm, hBl⟩
        · obtain rfl : i = 12 := by omega
          have HV := mkHid (primeB_yes h1 h2 hn.out hw.out)
          go_wp2
          go_ret
          exact ⟨ret_bool HV.out.symm, hBl⟩
theorem rprime_any (n : Int) (w : World) :
    Calls Tryd.prog 23 #[.int .i64 n] w fun e w' => e = .returned (.bool (primeB n)) ∧ Below w.heap.size w w' := by
  by_cases h : n < 2 ∨ 2305843009213693952 ≤ n
  · exact rprime_lo n w h
  · exact rprime_hi n w (by omega) (by omega)
end Go.Proofs.YtbllanmhbfnagaaDoor
