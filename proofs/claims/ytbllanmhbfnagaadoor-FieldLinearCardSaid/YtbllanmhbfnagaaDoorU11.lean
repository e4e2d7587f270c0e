/- Groups of field: Element, Power, Times, Over (walks). Products in a group (walk). -/
import Derived.Lib.QuietBelow
import Derived.Test.YtbllanmhbfnagaaDoorU10
set_option linter.unusedVariables false
set_option linter.unusedSimpArgs false
namespace Go.Proofs.YtbllanmhbfnagaaDoor
open Go.RowKit Go.Sort
/-- A contract for every world, met in a world of the class. -/
theorem regr {f : FuncId} {args : Array Value} {v : Value} (w : World) (h : ∀ W : World, Below w.heap.size w W → Calls Tryd.prog f args W fun e w' => e = .returned v ∧ Below W.heap.size W w') (d : Nat) (os : Array Obj) :
    Calls Tryd.prog f args (grow (redrawn w d) os) fun e w'' => e = .returned v ∧ ∃ p : Regrown, w'' = grow (redrawn w p.d) p.os := Calls.regrown_of (h _ (below_regrown w d os))
theorem drew_below {w w' : World} (h : Drew w w') : Below w.heap.size w w' := by obtain ⟨m, rfl⟩ := h; exact below_drewN (Below.refl _ _) m
theorem residue_b (n a : Int) (w : World) (h1 : 1 ≤ n) (h2 : n < 2305843009213693952) :
    Calls Tryd.prog 77 #[.int .i64 n, .int .i64 a] w fun e w' => e = .returned (.int .u64 (a % n)) ∧ Below w.heap.size w w' :=
  (residue_any n a w h1 h2).mono fun _ _ ⟨a, b⟩ => ⟨a, by subst b; exact Below.refl _ _⟩
theorem power_b (n a b : Int) (w : World) (h1 : 1 ≤ n) (h2 : n < 2305843009213693952) (a0 : 0 ≤ a) (a1 : a < n) (b0 : 0 ≤ b) (b1 : b ≤ 18446744073709551615) :
    Calls Tryd.prog 84 #[.int .i64 n, .int .u64 a, .int .u64 b] w fun e w' => e = .returned (.int .u64 (powI n a b.toNat)) ∧ Below w.heap.size w w' :=
  (power_any n a b w h1 h2 a0 a1 b0 b1).mono fun _ _ ⟨a, b⟩ => ⟨a, drew_below b⟩
theorem pow_b (n a b : Int) (w : World) (hb0 : -9223372036854775808 ≤ b) (hb1 : b ≤ 9223372036854775807) :
    Calls Tryd.prog 30 #[.int .i64 n, .int .i64 a, .int .i64 b] w fun e w' => e = .returned (.int .i64 (powS n a b)) ∧ Below w.heap.size w w' :=
  (pow_any n a b w hb0 hb1).mono fun _ _ ⟨a, b⟩ => ⟨a, drew_below b⟩
theorem mul_b (n a b : Int) (w : World) :
    Calls Tryd.prog 28 #[.int .i64 n, .int .i64 a, .int .i64 b] w fun e w' => e = .returned (.int .i64 (mulI n a b)) ∧ Below w.heap.size w w' :=
  (mul_any n a b w).mono fun _ _ ⟨a, b⟩ => ⟨a, drew_below b⟩
set_option maxHeartbeats 1000000 in
set_option maxRecDepth 100000 in
theorem times_any (P Q G a b : Int) (w : World) :
    Calls Tryd.prog 42 #[grpV P Q G, .int .i64 a, .int .i64 b] w fun e w' => e = .returned (.int .i64 (gtI P Q a b)) ∧ Below w.heap.size w w' := by
  unfold grpV gcells
  have B1 := mkHid ((Below.refl w.heap.size w).alloc (Nat.le_refl _) (.cells (gcells P Q G) 38))
  cases hQ : modB Q with
  | false =>
    have hr : Hid (gtI P Q a b = 0) := mkHid (by unfold gtI; rw [hQ]; rfl)
    have V := mkHid hQ
    clear hQ
    go_enter Tryd.func42, Tryd.ntmps42
    go_wp2_with fail
    refine (valid_no Q _ V.out).mono ?_
    rintro e w' ⟨rfl, rfl⟩
    go_wp2
    go_ret
    exact ⟨by rw [hr.out]; rfl, B1.out⟩
  | true =>
    have hr : Hid (gtI P Q a b = mulI P a b) := mkHid (by unfold gtI; rw [hQ]; rfl)
    have V := mkHid hQ
    clear hQ
    go_enter Tryd.func42, Tryd.ntmps42
    go_wp2_with fail
    refine (valid_yes Q _ V.out).mono ?_
    rintro e w' ⟨rfl, rfl⟩
    go_wp2_with fail
    refine (mul_any P a b _).mono ?_
    rintro e w' ⟨rfl, m, rfl⟩
    rw [← hr.out]
    go_wp2
    go_ret
    exact ⟨rfl, below_drewN B1.out m⟩
set_option maxHeartbeats 1000000 in
set_option maxRecDepth 100000 in
theorem power_g_any (P Q G x k : Int) (w : World) :
    Calls Tryd.prog 39 #[grpV P Q G, .int .i64 x, .int .i64 k] w fun e w' => e = .returned (.int .i64 (gpI P Q x k)) ∧ Below w.heap.size w w' := by
  unfold grpV gcells
  have B1 := mkHid ((Below.refl w.heap.size w).alloc (Nat.le_refl _) (.cells (gcells P Q G) 38))
  cases hP : modB P with
  | false =>
    have hr : Hid (gpI P Q x k = 0) := mkHid (by unfold gpI; rw [hP]; rfl)
    have V := mkHid hP
    clear hP
    go_enter Tryd.func39, Tryd.ntmps39
    go_wp2_with fail
    refine (valid_no P _ V.out).mono ?_
    rintro e w' ⟨rfl, rfl⟩
    go_wp2
    go_ret
    exact ⟨by rw [hr.out]; rfl, B1.out⟩
  | true =>
    cases hQ : modB Q with
    | false =>
      have hr : Hid (gpI P Q x k = 0) := mkHid (by unfold gpI; rw [hP, hQ]; rfl)
      have V := mkHid hP
      have U := mkHid hQ
      clear hP hQ
      go_enter Tryd.func39, Tryd.ntmps39
      go_wp2_with fail
      refine (valid_yes P _ V.out).mono ?_
      rintro e w' ⟨rfl, rfl⟩
      go_wp2_with fail
      refine (valid_no Q _ U.out).mono ?_
      rintro e w' ⟨rfl, rfl⟩
      go_wp2
      go_ret
      exact ⟨by rw [hr.out]; rfl, B1.out⟩
    | true =>
      have hr : Hid (gpI P Q x k = powI P (x % P) (k % Q).toNat) := mkHid (by unfold gpI; rw [hP, hQ, powI_mod]; rfl)
      have hm1 := mkHid (modB_iff.1 hP)
      have hm2 := mkHid (modB_iff.1 hQ)
      have V := mkHid hP
      have U := mkHid hQ
      clear hP hQ
      have G1 := mkHid (HasG.new w P Q G).cells
      go_enter Tryd.func39, Tryd.ntmps39
      go_wp2_with fail
      refine (valid_yes P _ V.out).mono ?_
      rintro e w' ⟨rfl, rfl⟩
      go_wp2_with fail
      refine (valid_yes Q _ U.out).mono ?_
      rintro e w' ⟨rfl, rfl⟩
      go_wp2_with fail
      have B2 := B1.out
      have G2 := G1.out
      clear B1 G1
      simp only [gcells] at B2 G2
      generalize w.alloc (.cells #[.int .i64 P, .int .i64 Q, .int .i64 G] 38) = W at *
      obtain ⟨g1, g2, g3⟩ := G2
      have HB := mkHid B2
      clear B2
      have k1 := cell_regrown g1
      have k2 := cell_regrown g2
      clear g1 g2 g3
      have r1 := regr W (fun w _ => residue_b P x w hm1.out.1 hm1.out.2)
      have r2 := regr W (fun w _ => residue_b Q k w hm2.out.1 hm2.out.2)
      have xb := emod_bd x P hm1.out.1
      have kb := emod_bd k Q hm2.out.1
      have hq2 := hm2.out.2
      have r3 := regr W (fun w _ => power_b P (x % P) (k % Q) w hm1.out.1 hm1.out.2 xb.1 xb.2 kb.1 (by omega))
      have pb := powI_bd (n := P) hm1.out.1 (x % P) (k % Q).toNat
      have hp2 := hm1.out.2
      rw [← hr.out] at r3 pb
      have wrp : IntKind.i64.wrap (gpI P Q x k) = gpI P Q x k := by simp only [IntKind.wrap_i64]; omega
      refine wp_region_quiet_below (by kernel_rfl) (by kernel_rfl) ?_
      repeat (quiet_step (with_reducible (first | exact r1 _ _ | exact r2 _ _ | exact r3 _ _)))
      refine wpQuiet_nil ?_
      intro _ hw'
      obtain ⟨⟨dq, osq⟩, hw''⟩ := hw'
      subst hw''
      go_wp2
      go_ret
      exact ⟨rfl, HB.out.trans ((below_regrown W dq osq).mono HB.out.size)⟩
set_option maxHeartbeats 2000000 in
set_option maxRecDepth 100000 in
theorem over_any (P Q G a b : Int) (w : World) :
    Calls Tryd.prog 43 #[grpV P Q G, .int .i64 a, .int .i64 b] w fun e w' => e = .returned (.int .i64 (gtI P Q a (powS P b (-1)))) ∧ Below w.heap.size w w' := by
  have r0 : ∀ W : World, Calls Tryd.prog 42 #[grpV P Q G, .int .i64 a, .int .i64 (powS P b (-1))] W fun e w' => e = .returned (.int .i64 (gtI P Q a (powS P b (-1)))) ∧ Below W.heap.size W w' := fun W => times_any P Q G a (powS P b (-1)) W
  have rp : ∀ W : World, Calls Tryd.prog 30 #[.int .i64 P, .int .i64 b, .int .i64 (-1)] W fun e w' => e = .returned (.int .i64 (powS P b (-1))) ∧ Below W.heap.size W w' := fun W => pow_b P b (-1) W (by omega) (by omega)
  unfold grpV gcells at r0 ⊢
  generalize gtI P Q a (powS P b (-1)) = y at *
  generalize powS P b (-1) = x at *
  have RP := mkHid rp
  clear rp
  have B2 := (Below.refl w.heap.size w).alloc (Nat.le_refl _) (.cells (gcells P Q G) 38)
  have G2 := (HasG.new w P Q G).cells
  have R0 := mkHid r0
  clear r0
  go_enter Tryd.func43, Tryd.ntmps43
  go_upto_region 1 with (fail)
  simp only [gcells] at B2 G2
  generalize w.alloc (.cells #[.int .i64 P, .int .i64 Q, .int .i64 G] 38) = W at *
  obtain ⟨g1, g2, g3⟩ := G2
  have HB := mkHid B2
  clear B2
  have k1 := cell_regrown g1
  have k2 := cell_regrown g2
  have k3 := cell_regrown g3
  clear g1 g2 g3
  have r1 := regr W (fun w _ => RP.out w)
  have r2 := regr W (fun w _ => R0.out w)
  refine wp_region_quiet_below (by kernel_rfl) (by kernel_rfl) ?_
  repeat (quiet_step (with_reducible (first | exact r1 _ _ | exact r2 _ _)))
  refine wpQuiet_nil ?_
  intro _ hw'
  obtain ⟨⟨dq, osq⟩, hw''⟩ := hw'
  subst hw''
  go_wp2
  go_ret
  exact ⟨rfl, HB.out.trans ((below_regrown W dq osq).mono HB.out.size)⟩
theorem el_eq {P Q G x : Int} (h1 : 1 ≤ x) (h2 : x < P) : elB P Q G x = (vgB P Q G && (powS P x Q == 1)) := by
  unfold elB
  rw [decide_eq_true h1, decide_eq_true h2]
  rfl
set_option maxHeartbeats 2000000 in
set_option maxRecDepth 100000 in
theorem element_any (P Q G x : Int) (w : World) (hT : Tab w) :
    Calls Tryd.prog 38 #[grpV P Q G, .int .i64 x] w fun e w' => e = .returned (.bool (elB P Q G x)) ∧ Below w.heap.size w w' := by
  have HT := mkHid hT
  clear hT
  have r0 : ∀ W : World, Tab W → Calls Tryd.prog 41 #[grpV P Q G] W fun e w' => e = .returned (.bool (vgB P Q G)) ∧ Below W.heap.size W w' := fun W h => valid_group_any P Q G W h
  unfold grpV gcells at r0 ⊢
  have R0 := mkHid r0
  clear r0
  have B1 := mkHid ((Below.refl w.heap.size w).alloc (Nat.le_refl _) (.cells (gcells P Q G) 38))
  have G1 := mkHid (HasG.new w P Q G)
  by_cases h1 : x < 1
  · have hv : Hid (elB P Q G x = false) := mkHid (by unfold elB; rw [decide_eq_false (by omega)]; rfl)
    go_enter Tryd.func38, Tryd.ntmps38
    go_wp2
    go_ret
    exact ⟨ret_bool hv.out.symm, B1.out⟩
  by_cases h2 : P ≤ x
  · have hv : Hid (elB P Q G x = false) := mkHid (by unfold elB; rw [decide_eq_false (p := x < P) (by omega)]; simp)
    go_enter Tryd.func38, Tryd.ntmps38
    go_wp2
    go_ret
    exact ⟨ret_bool hv.out.symm, B1.out⟩
  have HE := mkHid (el_eq (Q := Q) (G := G) (show 1 ≤ x by omega) (show x < P by omega))
  cases hq : vgB P Q G with
  | false =>
    have HQ := mkHid hq
    clear hq
    go_enter Tryd.func38, Tryd.ntmps38
    go_wp2_with fail
    refine (R0.out _ (HT.out.step ((Below.refl _ w).alloc (Nat.le_refl _) _))).mono ?_
    rintro e w2 ⟨rfl, b2⟩
    rw [HQ.out]
    go_wp2
    go_ret
    exact ⟨ret_bool (by rw [HE.out, HQ.out]; rfl), B1.out.trans (b2.mono B1.out.size)⟩
  | true =>
    have qb := mkHid ((vgB_iff P Q G).1 hq)
    have HQ := mkHid hq
    clear hq
    go_enter Tryd.func38, Tryd.ntmps38
    go_wp2_with fail
    refine (R0.out _ (HT.out.step ((Below.refl _ w).alloc (Nat.le_refl _) _))).mono ?_
    rintro e w2 ⟨rfl, b2⟩
    rw [HQ.out]
    have B2 := mkHid (B1.out.trans (b2.mono B1.out.size))
    obtain ⟨g1, g2, g3⟩ := (G1.out.below b2).cells
    clear b2 g3
    go_wp2_with fail
    refine (pow_any P x Q _ (by have := qb.out.q5; omega) (by have := qb.out.qm; omega)).mono ?_
    rintro e w4 ⟨rfl, m, rfl⟩
    cases ho : (powS P x Q == 1) with
    | false =>
      have HO := mkHid ho
      generalize powS P x Q = y at *
      go_wp2
      go_ret
      exact ⟨ret_bool (by rw [HE.out, HQ.out, HO.out]; rfl), below_drewN B2.out m⟩
    | true =>
      have HO := mkHid ho
      generalize powS P x Q = y at *
      go_wp2
      go_ret
      exact ⟨ret_bool (by rw [HE.out, HQ.out, HO.out]; rfl), below_drewN B2.out m⟩
end Go.Proofs.YtbllanmhbfnagaaDoor
namespace Go.Proofs.YtbllanmhbfnagaaDoor
open Go.RowKit Go.Sort
/-- The product of the first j powers. -/
def prodL (P Q : Int) (bs es : List Int) : Nat → Int
  | 0 => 1 % P
  | j + 1 => mulI P (prodL P Q bs es j) (gpI P Q (bs.getD j 0) (es.getD j 0))
theorem prodL_bd (P Q : Int) (bs es : List Int) (h : 1 ≤ P) (h2 : P < 2305843009213693952) (j : Nat) : 0 ≤ prodL P Q bs es j ∧ prodL P Q bs es j < 2305843009213693952 := by
  cases j with
  | zero => have := emod_bd 1 P h; exact ⟨this.1, by have := this.2; unfold prodL; omega⟩
  | succ j => exact mulI_bd _ _ _
set_option maxHeartbeats 4000000 in
set_option maxRecDepth 100000 in
theorem gprod_any (P Q G : Int) (g1 o1 c1 g2 o2 c2 n : Nat) (bs es : List Int) (w : World) (hP : modB P = true) (hQ : modB Q = true) (hb : bs.length = n) (he : es.length = n) (hn : n ≤ 1000000)
    (h1 : ∀ j, j < n → w.cell? ⟨g1, o1 + j, none⟩ = some (.int .i64 (bs.getD j 0))) (h2 : ∀ j, j < n → w.cell? ⟨g2, o2 + j, none⟩ = some (.int .i64 (es.getD j 0))) (l1 : g1 < w.heap.size) (l2 : g2 < w.heap.size) :
    Calls Tryd.prog 44 #[grpV P Q G, .slice (some ⟨g1, o1, none⟩) n c1, .slice (some ⟨g2, o2, none⟩) n c2] w fun e w' => e = .returned (.tuple #[.int .i64 (prodL P Q bs es n), .bool true]) ∧ Below w.heap.size w w' := by
  have rp : ∀ (x k : Int) (W : World), Calls Tryd.prog 39 #[grpV P Q G, .int .i64 x, .int .i64 k] W fun e w' => e = .returned (.int .i64 (gpI P Q x k)) ∧ Below W.heap.size W w' := fun x k W => power_g_any P Q G x k W
  unfold grpV gcells at rp ⊢
  have RP := mkHid rp
  have V := mkHid hP
  have U := mkHid hQ
  have hp := mkHid (modB_iff.1 hP)
  have H1 := mkHid h1
  have H2 := mkHid h2
  clear rp hP hQ h1 h2 hb he
  obtain ⟨p1, p2⟩ := hp.out
  obtain ⟨o, ho⟩ : ∃ y, (1 : Int) % P = y := ⟨_, rfl⟩
  have ho2 : (1 : Int).tmod P = o := by rw [Int.tmod_eq_emod_of_nonneg (by omega)]; exact ho
  have hp0 : ¬ P = 0 := by omega
  have HO : Hid (prodL P Q bs es 0 = o) := mkHid ho
  have B0 := mkHid ((Below.refl w.heap.size w).alloc (Nat.le_refl _) (.cells (gcells P Q G) 38))
  have G0 := mkHid (HasG.new w P Q G)
  go_enter Tryd.func44, Tryd.ntmps44
  go_wp2_with fail
  refine (valid_yes P _ V.out).mono ?_
  rintro e w' ⟨rfl, rfl⟩
  go_wp2_with fail
  refine (valid_yes Q _ U.out).mono ?_
  rintro e w' ⟨rfl, rfl⟩
  go_wp2_with fail
  simp only [gcells] at B0
  have G1 : Hid (HasG (w.alloc (.cells #[.int .i64 P, .int .i64 Q, .int .i64 G] 38)) w.heap.size P Q G) := G0
  clear G0
  have L1 : g1 < (w.alloc (.cells #[.int .i64 P, .int .i64 Q, .int .i64 G] 38)).heap.size := Nat.lt_of_lt_of_le l1 B0.out.size
  generalize w.alloc (.cells #[.int .i64 P, .int .i64 Q, .int .i64 G] 38) = W1 at *
  go_loopw [8, 33] (fun c d wr => ∃ (j : Nat), c = .int .i64 (prodL P Q bs es j) ∧ d = .int .i64 j ∧ j ≤ n ∧ Hid (HasG wr w.heap.size P Q G) ∧ Hid (Below w.heap.size w wr)) (fun _ d _ => (n - intOf d).toNat)
  case atStart => exact ⟨0, by rw [HO.out], rfl, by omega, G1, B0⟩
  case round =>
    clear G1 B0 L1
    obtain ⟨j, rfl, rfl, hj, hg, hw⟩ := hrel
    by_cases hlt : j < n
    · have hst : Hid (prodL P Q bs es (j + 1) = mulI P (prodL P Q bs es j) (gpI P Q (bs.getD j 0) (es.getD j 0))) := mkHid rfl
      have k1 := (hw.out.cell (p := ⟨g1, o1 + j, none⟩) l1).trans (H1.out j hlt)
      have k2 := (hw.out.cell (p := ⟨g2, o2 + j, none⟩) l2).trans (H2.out j hlt)
      have pb := prodL_bd P Q bs es p1 p2 j
      generalize bs.getD j 0 = x at *
      generalize es.getD j 0 = y at *
      generalize prodL P Q bs es j = s at *
      have jj : (j : Int) < n := by omega
      have cP : ∀ W : World, Calls Tryd.prog 39 #[.agg #[.int .i64 P, .int .i64 Q, .int .i64 G], .int .i64 x, .int .i64 y] W fun e w' => e = .returned (.int .i64 (gpI P Q x y)) ∧ Below W.heap.size W w' := fun W => RP.out x y W
      have cM : ∀ W : World, Calls Tryd.prog 28 #[.int .i64 P, .int .i64 s, .int .i64 (gpI P Q x y)] W fun e w' => e = .returned (.int .i64 (mulI P s (gpI P Q x y))) ∧ Below W.heap.size W w' := fun W => mul_b P s (gpI P Q x y) W
      rw [← hst.out] at cM
      generalize gpI P Q x y = z at *
      have HS2 : Hid (prodL P Q bs es (j + 1) = prodL P Q bs es (j + 1)) := mkHid rfl
      obtain ⟨s2, hs2⟩ : ∃ y, prodL P Q bs es (j + 1) = y := ⟨_, rfl⟩
      rw [hs2] at cM
      have HS3 := mkHid hs2
      clear hs2 HS2 hst
      go_upto_region 7 with (fail)
      obtain ⟨q0, q1, q2⟩ := hg.out.cells
      have m0 := cell_regrown q0
      have m1 := cell_regrown q1
      have m2 := cell_regrown q2
      have m3 := cell_regrown k2
      have kP := regr wr (fun w _ => cP w)
      have kM := regr wr (fun w _ => cM w)
      clear q0 q1 q2 k1 k2 cP cM
      refine wp_region_quiet_below (by kernel_rfl) (by kernel_rfl) ?_
      repeat (quiet_step (with_reducible (first | exact kP _ _ | exact kM _ _)))
      refine wpQuiet_nil ?_
      intro _ hw'
      obtain ⟨⟨dq, osq⟩, hw''⟩ := hw'
      subst hw''
      clear m0 m1 m2 m3 kP kM
      have hbb := below_regrown wr dq osq
      go_wp2
      go_roundw
      case rel => exact ⟨j + 1, by rw [HS3.out], by go_num, by omega, mkHid (hg.out.below hbb), mkHid (hw.out.trans (hbb.mono hw.out.size))⟩
      case measure => simp only [intOf]; omega
    · obtain rfl : j = n := by omega
      go_wp2
      go_ret2
      exact ⟨rfl, hw.out⟩
end Go.Proofs.YtbllanmhbfnagaaDoor
