/- FieldCyclic: what the property's function computes (walk). -/
import Derived.Test.YtbllanmhbfnagaaDoorLB
import Derived.Test.YtbllanmhbfnagaaDoorFC
import Derived.Test.YtbllanmhbfnagaaDoorQA
import Derived.Outline
set_option linter.unusedVariables false
set_option linter.unusedSimpArgs false
namespace Go.Proofs.YtbllanmhbfnagaaDoor
open Go.RowKit Go.Sort
theorem HasG.bel {w w' : World} {A B : Nat} {P Q G : Int} (h : HasG w A P Q G) (hb : Below B w w') (hA : A < B) : HasG w' A P Q G := by
  unfold HasG; rw [hb.block A hA]; exact h
theorem own_empty (w : World) (t : TypeId) : OwnAt (w.alloc (.cells #[] t)) w.heap.size w.heap.size 0 0 [] :=
  ⟨Nat.le_refl _, by simp, Nat.le_refl _, by simp [maxLen], fun j u h => by simp at h, fun j h => absurd h (Nat.not_lt_zero j), fun j h => absurd h (Nat.not_lt_zero j)⟩
def elI (q x : Nat) : List Int := (elF q x).map (fun n : Nat => (n : Int))
theorem elI_len (q x : Nat) : (elI q x).length = (elF q x).length := by simp [elI]
theorem elI_yes {q x : Nat} (h : eln q x = true) : elI q (x + 1) = elI q x ++ [(x : Int)] := by unfold elI; rw [elF_succ, if_pos h, List.map_append]; rfl
theorem elI_no {q x : Nat} (h : eln q x = false) : elI q (x + 1) = elI q x := by unfold elI; rw [elF_succ, h]; rfl
def zeroL : List Bool := List.replicate 403 false
theorem make_bools (W : World) : (Instr.makeSlice 41 (.int .i64 403) (.int .i64 403)).run Tryd.prog W = .ok (.slice (some ⟨W.heap.size, 0, none⟩) 403 403) (W.alloc (.cells (bcells zeroL) 4)) := by kernel_rfl
set_option maxHeartbeats 8000000 in
set_option maxRecDepth 100000 in
theorem cyclic_walk (q0 c0 : Int) (w : World) (hT : Tab w) (q00 : 0 ≤ q0) (q01 : q0 ≤ 255) (c00 : 0 ≤ c0) (c01 : c0 ≤ 255) :
    Calls Tryd.prog 8 #[.int .u8 q0, .int .u8 c0] w fun e w' => e = .returned (.bool true) ∧ Below w.heap.size w w' := by
  have HT := mkHid hT
  clear hT
  obtain ⟨q, hq⟩ : ∃ q : Nat, q0.tmod 201 = (q : Int) := ⟨(q0 % 201).toNat, by rw [Int.tmod_eq_emod_of_nonneg q00]; omega⟩
  have hql : q < 201 := by have := Int.tmod_lt_of_pos q0 (show (0 : Int) < 201 by omega); omega
  have cvq : IntKind.i64.wrap q0 = q0 := IntWalk.i64_in _ (by omega)
  cases hv : vgB (2 * (q : Int) + 1) q 4 with
  | false =>
    have HV := mkHid hv
    clear hv
    go_enter Tryd.func8, Tryd.ntmps8
    have B0 := mkHid (Below.refl w.heap.size w)
    go_wp2_with fail
    refine (sane_any _ (HT.out.step B0.out)).mono ?_
    rintro e w1 ⟨rfl, b1⟩
    have B1 := mkHid (B0.out.trans (b1.mono B0.out.size))
    clear b1 B0
    go_wp2_with fail
    refine (make_no q _ (HT.out.step B1.out) HV.out).mono ?_
    rintro e w2 ⟨rfl, b2⟩
    have B2 := mkHid (B1.out.trans (b2.mono B1.out.size))
    clear b2 B1
    have ha := mkHid B2.out.size
    simp only [grpV, gcells]
    go_wp2_with (refine wpList_store_abs rfl 38 (.tmp 6) (.tmp 22) rfl w2.heap.size #[.int .i64 0, .int .i64 0, .int .i64 0] ?s1 ?s2 38 _ (heap_alloc_last _ _) (ginf 0 0 0) rfl (gone 0 0 0) ?_; (case s1 => rfl); (case s2 => rfl); intro w3 s3 u3; have B3 := mkHid (u3.below (B2.out.alloc B2.out.size _) ha.out); clear s3 u3 B2)
    go_ret
    exact ⟨rfl, B3.out⟩
  | true =>
    have hc := cq_of q hql hv
    have HV := mkHid hv
    clear hv hql
    obtain ⟨q5, q191⟩ := cq_bd hc
    have HC := mkHid hc
    clear hc
    have hmk := make_bools
    obtain ⟨P, hP⟩ : ∃ y : Int, 2 * (q : Int) + 1 = y := ⟨_, rfl⟩
    have HP := mkHid hP
    have P1 : 11 ≤ P := by omega
    have P2 : P ≤ 383 := by omega
    have hP0 : ¬ P = 0 := by omega
    go_enter Tryd.func8, Tryd.ntmps8
    have B0 := mkHid (Below.refl w.heap.size w)
    go_wp2_with fail
    refine (sane_any _ (HT.out.step B0.out)).mono ?_
    rintro e w1 ⟨rfl, b1⟩
    have B1 := mkHid (B0.out.trans (b1.mono B0.out.size))
    clear b1 B0
    go_wp2_with fail
    refine (make_yes q _ (HT.out.step B1.out) HV.out).mono ?_
    rintro e w2 ⟨rfl, b2⟩
    have B2 := mkHid (B1.out.trans (b2.mono B1.out.size))
    clear b2 B1
    have ha := mkHid B2.out.size
    rw [hP]
    clear hP
    simp only [grpV, gcells]
    go_wp2_with (refine wpList_store_abs rfl 38 (.tmp 6) (.tmp 22) rfl w2.heap.size #[.int .i64 P, .int .i64 q, .int .i64 4] ?s1 ?s2 38 _ (heap_alloc_last _ _) (ginf P q 4) rfl (gone P q 4) ?_; (case s1 => rfl); (case s2 => rfl); intro w3 s3 u3; have z3 := mkHid (u3.size.trans (show _ = w2.heap.size + 1 by simp)); have G3 : Hid (HasG w3 w2.heap.size P q 4) := mkHid s3; have B3 := mkHid (u3.below (B2.out.alloc B2.out.size _) ha.out); clear s3 u3 B2)
    have G4 : Hid (HasG (w3.alloc (.cells (bcells zeroL) 4)) w2.heap.size P q 4) := mkHid (G3.out.alloc _)
    have S4 := mkHid (HasB.new w3 zeroL)
    have B4 := mkHid (B3.out.alloc B3.out.size (.cells (bcells zeroL) 4))
    have z4 : Hid ((w3.alloc (.cells (bcells zeroL) 4)).heap.size = w2.heap.size + 2) := mkHid (by simp [z3.out])
    have z5 := z3.out
    generalize w3.alloc (.cells (bcells zeroL) 4) = w4 at *
    clear G3 B3 z3
    rw [z5] at S4
    rw [z5]
    clear z5
    generalize w2.heap.size = A at *
    go_loopw [9] (fun c wr => ∃ k : Nat, c = .int .i64 ((k : Int) + 1) ∧ k ≤ 2 * q ∧ Hid (HasG wr A P q 4) ∧ Hid (HasB wr (A + 1) (sqL (2 * q + 1) k)) ∧ Hid (Below w.heap.size w wr) ∧ Hid (wr.heap.size = A + 2)) (fun c _ => (403 - intOf c).toNat)
    case atStart => exact ⟨0, rfl, by omega, G4, S4, B4, z4⟩
    case round =>
      clear G4 S4 B4 z4
      obtain ⟨k, rfl, hk, hg, hs, hb, hz⟩ := hrel
      obtain ⟨g1, g2, g3⟩ := hg.out.cells
      have e1 : IntKind.i64.wrap ((k : Int) + 1 + 1) = ((k + 1 : Nat) : Int) + 1 := by rw [IntWalk.i64_in _ (by omega)]; omega
      by_cases hlt : (k : Int) + 1 < P
      · have hmul : 1 ≤ ((k : Int) + 1) * ((k : Int) + 1) ∧ ((k : Int) + 1) * ((k : Int) + 1) ≤ 160000 := by
          have h1 : ((k : Int) + 1) * ((k : Int) + 1) ≤ 400 * 400 := Int.mul_le_mul (by omega) (by omega) (by omega) (by omega)
          have h2 : (1 : Int) * 1 ≤ ((k : Int) + 1) * ((k : Int) + 1) := Int.mul_le_mul (by omega) (by omega) (by omega) (by omega)
          omega
        have e2 : IntKind.i64.wrap (((k : Int) + 1) * ((k : Int) + 1)) = ((k : Int) + 1) * ((k : Int) + 1) := IntWalk.i64_in _ (by omega)
        obtain ⟨j, hj⟩ : ∃ j : Nat, ((k + 1) * (k + 1)) % (2 * q + 1) = j := ⟨_, rfl⟩
        have hj2 : j < 2 * q + 1 := by rw [← hj]; exact Nat.mod_lt _ (by omega)
        have e3 : (((k : Int) + 1) * ((k : Int) + 1)).tmod P = (j : Int) := by
          rw [Int.tmod_eq_emod_of_nonneg (by omega), ← HP.out, ← hj]
          simp only [Int.natCast_emod, Int.natCast_mul, Int.natCast_add]
          rfl
        have hsq : Hid (sqL (2 * q + 1) (k + 1) = (sqL (2 * q + 1) k).set j true) := mkHid (by rw [← hj]; rfl)
        have sc := hs.out.cell j (by rw [sqL_len]; omega)
        have sf := hs.out.free j
        have kk : (k : Int) + 1 < 403 := by omega
        have jj : (j : Int) < 403 := by omega
        clear hj hmul
        go_wp2
        go_roundw
        case rel => exact ⟨k + 1, rfl, by have := HP.out; omega, mkHid (hg.out.other _ _ (by show A + 1 ≠ A; omega)), mkHid (by rw [hsq.out]; exact hs.out.set _ _), mkHid (below_setCell hb.out (by show w.heap.size ≤ A + 1; have := ha.out; omega) _), mkHid (by rw [← hz.out]; simp)⟩
        case measure => simp only [intOf]; omega
      · obtain rfl : k = 2 * q := by have := HP.out; omega
        go_wp2
        have OE := own_empty wr 3
        have BE := (Below.refl wr.heap.size wr).alloc (Nat.le_refl _) (.cells #[] 3)
        have zz : (wr.alloc (.cells #[] 3)).heap.size = A + 3 := by simp [hz.out]
        rw [hz.out]
        rw [hz.out] at OE BE
        have G5 := mkHid (hg.out.alloc (.cells #[] 3))
        have S5 := mkHid (hs.out.below BE (by omega))
        have B5 := mkHid (hb.out.trans (BE.mono (by have := ha.out; omega)))
        have O5 := mkHid OE.s
        have z5 : Hid (A + 2 ≤ (wr.alloc (.cells #[] 3)).heap.size) := mkHid (by omega)
        clear OE BE zz hg hs hb hz g1 g2 g3 e1
        generalize wr.alloc (.cells #[] 3) = w5 at *
        go_loopw [10, 11] (fun s c wr => ∃ (x : Nat) (ao : Option Addr) (n cp : Nat), s = .slice ao n cp ∧ c = .int .i64 x ∧ x ≤ 2 * q + 2 ∧ Hid (n = (elI q x).length) ∧ Hid (OwnS wr (A + 2) cp (iv (elI q x)) ao) ∧ Hid (HasG wr A P q 4) ∧ Hid (HasB wr (A + 1) (sqL (2 * q + 1) (2 * q))) ∧ Hid (Below w.heap.size w wr) ∧ Hid (A + 2 ≤ wr.heap.size)) (fun _ c _ => (403 - intOf c).toNat)
        case atStart => exact ⟨0, _, 0, 0, rfl, rfl, by omega, mkHid rfl, O5, G5, S5, B5, z5⟩
        case round =>
          clear O5 G5 S5 B5 z5
          obtain ⟨x, ao, n, cp, rfl, rfl, hx, hn, ho, hg, hs, hb, hz⟩ := hrel
          have e1 : IntKind.i64.wrap ((x : Int) + 1) = ((x + 1 : Nat) : Int) := IntWalk.i64_in _ (by omega)
          obtain ⟨g1, g2, g3⟩ := hg.out.cells
          have TR := mkHid (HT.out.step (hb.out.mono (by have := ha.out; omega)))
          have hel0 := mkHid (fun h => cyc_sq HC.out x h)
          by_cases hlt : (x : Int) < P
          · have hle : (x : Int) ≤ P := by omega
            have hl3 : (x : Int) < 403 := by omega
            have hel := hel0.out (by have := HP.out; omega)
            cases he : eln q x with
            | true =>
              have HE := mkHid he
              clear he
              have he2 := HE.out
              rw [decide_eq_true (show x < 2 * q + 1 by have := HP.out; omega), Bool.true_and, he2] at hel
              have k4 := hs.out.cell x (by rw [sqL_len]; omega)
              rw [← hel] at k4
              have ce : ∀ W : World, Tab W → Calls Tryd.prog 38 #[.agg #[.int .i64 P, .int .i64 q, .int .i64 4], .int .i64 x] W fun e w' => e = .returned (.bool true) ∧ Below W.heap.size W w' := fun W hW => by have h := element_any P q 4 x W hW; unfold grpV gcells at h; rw [← HP.out, elB_nat HC.out x, HE.out] at h; rw [← HP.out]; exact h
              clear hel he2
              have CE := mkHid ce
              clear ce
              go_upto_region 14 with (fail)
              have m1 := cell_regrown g1
              have m2 := cell_regrown g2
              have m3 := cell_regrown g3
              have m4 := cell_regrown k4
              have kE := regr wr (fun W hW => CE.out W (TR.out.step hW))
              clear g1 g2 g3 k4
              refine wp_region_quiet_below (by kernel_rfl) (by kernel_rfl) ?_
              repeat (quiet_step (with_reducible (first | exact kE _ _)))
              refine wpQuiet_nil ?_
              intro _ hw'
              obtain ⟨⟨dq, osq⟩, hw''⟩ := hw'
              subst hw''
              have hbb := below_regrown wr dq osq
              clear kE m1 m2 m3 m4
              have G6 := hg.out.below hbb
              have S6 := mkHid (hs.out.step hbb)
              have O6 := mkHid (ho.out.below hbb)
              have B6 := mkHid (hb.out.trans (hbb.mono (hb.out.size)))
              have T6 := mkHid (TR.out.step hbb)
              have z6 := mkHid (Nat.le_trans hz.out hbb.size)
              clear hbb hg hs ho hb TR hz
              generalize grow (redrawn wr dq) osq = w6 at *
              obtain ⟨g1, g2, g3⟩ := G6.cells
              have G6 := mkHid G6
              go_wp2_with fail
              refine (CE.out _ T6.out).mono ?_
              rintro e w7 ⟨rfl, b7⟩
              have G7 := mkHid (G6.out.below b7)
              have S7 := mkHid (S6.out.step b7)
              have O7 := mkHid (O6.out.below b7)
              have B7 := mkHid (B6.out.trans (b7.mono (B6.out.size)))
              have z7 := mkHid (Nat.le_trans z6.out b7.size)
              clear b7 G6 S6 O6 B6 z6 g1 g2 g3
              have hl2 := mkHid (elI_yes HE.out)
              have hn2 : n ≤ 1000 := by have := hn.out; rw [elI_len] at this; have := elF_len_le q x; omega
              go_wp2_with (at_builtin; refine app_ints w7 (A + 2) rfl (.tmp 74) (.tmp 76) rfl ao cp n (elI q x) ?q1 ?q2 O7.out z7.out 1 1 #[.int .i64 x] 3 [(x : Int)] ?q3 rfl rfl (by omega) ?q4 ?_; (case q1 => exact hn.out); (case q2 => rfl); (case q3 => rfl); (case q4 => omega); intro g4 off4 c4 w8 o8 b8; rw [← hl2.out] at o8; have O8 := mkHid o8; have B8 := mkHid b8; clear o8 b8)
              go_roundw
              case rel => exact ⟨x + 1, some ⟨g4, off4, none⟩, n + 1, c4, rfl, rfl, by have := HP.out; omega, mkHid (by rw [hl2.out, List.length_append, ← hn.out]; rfl), mkHid O8.out.s, mkHid (G7.out.bel B8.out (by omega)), mkHid (S7.out.below B8.out (by omega)), mkHid (B7.out.trans (B8.out.mono (by have := ha.out; omega))), mkHid (Nat.le_trans z7.out B8.out.size)⟩
              case measure => simp only [intOf]; omega
            | false =>
              have HE := mkHid he
              clear he
              have he2 := HE.out
              rw [decide_eq_true (show x < 2 * q + 1 by have := HP.out; omega), Bool.true_and, he2] at hel
              have k4 := hs.out.cell x (by rw [sqL_len]; omega)
              rw [← hel] at k4
              have ce : ∀ W : World, Tab W → Calls Tryd.prog 38 #[.agg #[.int .i64 P, .int .i64 q, .int .i64 4], .int .i64 x] W fun e w' => e = .returned (.bool false) ∧ Below W.heap.size W w' := fun W hW => by have h := element_any P q 4 x W hW; unfold grpV gcells at h; rw [← HP.out, elB_nat HC.out x, HE.out] at h; rw [← HP.out]; exact h
              clear hel he2
              have CE := mkHid ce
              clear ce
              go_upto_region 14 with (fail)
              have m1 := cell_regrown g1
              have m2 := cell_regrown g2
              have m3 := cell_regrown g3
              have m4 := cell_regrown k4
              have kE := regr wr (fun W hW => CE.out W (TR.out.step hW))
              clear g1 g2 g3 k4
              refine wp_region_quiet_below (by kernel_rfl) (by kernel_rfl) ?_
              repeat (quiet_step (with_reducible (first | exact kE _ _)))
              refine wpQuiet_nil ?_
              intro _ hw'
              obtain ⟨⟨dq, osq⟩, hw''⟩ := hw'
              subst hw''
              have hbb := below_regrown wr dq osq
              clear kE m1 m2 m3 m4
              have G6 := hg.out.below hbb
              have S6 := mkHid (hs.out.step hbb)
              have O6 := mkHid (ho.out.below hbb)
              have B6 := mkHid (hb.out.trans (hbb.mono (hb.out.size)))
              have T6 := mkHid (TR.out.step hbb)
              have z6 := mkHid (Nat.le_trans hz.out hbb.size)
              clear hbb hg hs ho hb TR hz
              generalize grow (redrawn wr dq) osq = w6 at *
              obtain ⟨g1, g2, g3⟩ := G6.cells
              have G6 := mkHid G6
              go_wp2_with fail
              refine (CE.out _ T6.out).mono ?_
              rintro e w7 ⟨rfl, b7⟩
              have G7 := mkHid (G6.out.below b7)
              have S7 := mkHid (S6.out.step b7)
              have O7 := mkHid (O6.out.below b7)
              have B7 := mkHid (B6.out.trans (b7.mono (B6.out.size)))
              have z7 := mkHid (Nat.le_trans z6.out b7.size)
              clear b7 G6 S6 O6 B6 z6 g1 g2 g3
              have hl2 := mkHid (elI_no HE.out)
              go_wp2_with fail
              go_roundw
              case rel => exact ⟨x + 1, ao, n, cp, rfl, rfl, by have := HP.out; omega, mkHid (by rw [hl2.out]; exact hn.out), mkHid (by rw [hl2.out]; exact O7.out), G7, S7, B7, z7⟩
              case measure => simp only [intOf]; omega
          · by_cases hle : (x : Int) ≤ P
            · have hel := hel0.out (by have := HP.out; omega)
              have HE : Hid (eln q x = false) := mkHid (by rw [hel, decide_eq_false (by have := HP.out; omega), Bool.false_and])
              have hl3 : (x : Int) < 403 := by omega
              have hlf : decide ((x : Int) < P) = false := decide_eq_false hlt
              have he2 := HE.out
              have ce : ∀ W : World, Tab W → Calls Tryd.prog 38 #[.agg #[.int .i64 P, .int .i64 q, .int .i64 4], .int .i64 x] W fun e w' => e = .returned (.bool false) ∧ Below W.heap.size W w' := fun W hW => by have h := element_any P q 4 x W hW; unfold grpV gcells at h; rw [← HP.out, elB_nat HC.out x, HE.out] at h; rw [← HP.out]; exact h
              clear hel he2
              have CE := mkHid ce
              clear ce
              go_upto_region 14 with (fail)
              have m1 := cell_regrown g1
              have m2 := cell_regrown g2
              have m3 := cell_regrown g3
              have kE := regr wr (fun W hW => CE.out W (TR.out.step hW))
              clear g1 g2 g3
              refine wp_region_quiet_below (by kernel_rfl) (by kernel_rfl) ?_
              repeat (quiet_step (with_reducible (first | exact kE _ _)))
              refine wpQuiet_nil ?_
              intro _ hw'
              obtain ⟨⟨dq, osq⟩, hw''⟩ := hw'
              subst hw''
              have hbb := below_regrown wr dq osq
              clear kE m1 m2 m3
              have G6 := hg.out.below hbb
              have S6 := mkHid (hs.out.step hbb)
              have O6 := mkHid (ho.out.below hbb)
              have B6 := mkHid (hb.out.trans (hbb.mono (hb.out.size)))
              have T6 := mkHid (TR.out.step hbb)
              have z6 := mkHid (Nat.le_trans hz.out hbb.size)
              clear hbb hg hs ho hb TR hz
              generalize grow (redrawn wr dq) osq = w6 at *
              obtain ⟨g1, g2, g3⟩ := G6.cells
              have G6 := mkHid G6
              go_wp2_with fail
              refine (CE.out _ T6.out).mono ?_
              rintro e w7 ⟨rfl, b7⟩
              have G7 := mkHid (G6.out.below b7)
              have S7 := mkHid (S6.out.step b7)
              have O7 := mkHid (O6.out.below b7)
              have B7 := mkHid (B6.out.trans (b7.mono (B6.out.size)))
              have z7 := mkHid (Nat.le_trans z6.out b7.size)
              clear b7 G6 S6 O6 B6 z6 g1 g2 g3
              have hl2 := mkHid (elI_no HE.out)
              go_wp2_with fail
              go_roundw
              case rel => exact ⟨x + 1, ao, n, cp, rfl, rfl, by have := HP.out; omega, mkHid (by rw [hl2.out]; exact hn.out), mkHid (by rw [hl2.out]; exact O7.out), G7, S7, B7, z7⟩
              case measure => simp only [intOf]; omega
            · obtain rfl : x = 2 * q + 2 := by have := HP.out; omega
              obtain ⟨hcl, hc0⟩ := cyc_len HC.out
              have hn2 : q = n := by have := hn.out; rw [elI_len, hcl] at this; exact this.symm
              have hn3 := hn
              subst hn2
              have hoo : ∃ g off, ao = some ⟨g, off, none⟩ ∧ Hid (OwnAt wr (A + 2) g off cp (iv (elI q (2 * q + 2)))) := by
                cases ho.out with
                | nil h => have := congrArg List.length h; rw [iv_length, elI_len, hcl] at this; simp at this; omega
                | «at» g off h => exact ⟨g, off, rfl, mkHid h⟩
              obtain ⟨g5, off5, rfl, hr⟩ := hoo
              have rd : ∀ j, j < q → wr.cell? ⟨g5, off5 + j, none⟩ = some (.int .i64 (((elF q (2 * q + 2)).getD j 0 : Nat) : Int)) := fun j hj => by
                have := hr.out.cells j _ (iv_at (elI q (2 * q + 2)) j (by rw [elI_len, hcl]; exact hj))
                rw [this]
                congr 2
                simp [elI, List.getD]
                cases (elF q (2 * q + 2))[j]? <;> rfl
              have rd0 : wr.cell? ⟨g5, off5, none⟩ = some (.int .i64 (((elF q (2 * q + 2)).getD 0 0 : Nat) : Int)) := rd 0 (by omega)
              rw [hc0] at rd0
              obtain ⟨r, hr1⟩ : ∃ r : Nat, c0.tmod ((q : Int) - 1) = (r : Int) := ⟨(c0 % ((q : Int) - 1)).toNat, by rw [Int.tmod_eq_emod_of_nonneg c00]; have := Int.emod_nonneg c0 (show (q : Int) - 1 ≠ 0 by omega); omega⟩
              have hr2 : r < q - 1 := by have := Int.tmod_lt_of_pos c0 (show (0 : Int) < (q : Int) - 1 by omega); omega
              have rd1 := rd (r + 1) (by omega)
              obtain ⟨hy1, hy2⟩ := elF_getD (q := q) (n := 2 * q + 2) (r + 1) (by rw [hcl]; omega)
              have hyn := cyc_no HC.out r (by omega)
              generalize (elF q (2 * q + 2)).getD (r + 1) 0 = y at *
              have Y2 := mkHid hy2
              have YN := mkHid hyn
              have f1 : IntKind.i64.wrap ((q : Int) - 1) = (q : Int) - 1 := IntWalk.i64_in _ (by omega)
              have f2 : IntKind.i64.wrap (1 + (r : Int)) = 1 + (r : Int) := IntWalk.i64_in _ (by omega)
              have f3 : (1 + (r : Int)).toNat = r + 1 := by omega
              have f4 : 0 ≤ 1 + (r : Int) := by omega
              have f5 : 1 + (r : Int) < q := by omega
              have f6 : IntKind.i64.wrap c0 = c0 := IntWalk.i64_in _ (by omega)
              have f7 : (0 : Int) < q := by omega
              have f8 : ¬ (q : Int) - 1 = 0 := by omega
              clear hy1 hy2 hyn rd hn hn3 ho hr hcl hc0
              go_wp2_with fail
              have BN := (Below.refl wr.heap.size wr).alloc (Nat.le_refl _) (.cells (bcells zeroL) 4)
              have G6 := mkHid (hg.out.alloc (.cells (bcells zeroL) 4))
              have S6 := mkHid (hs.out.step BN)
              have M6 := mkHid (HasB.new wr zeroL)
              have B6 := mkHid (hb.out.trans (BN.mono hb.out.size))
              clear BN hg hs hb rd0 rd1 f1 f2 f3 f4 f5 f6 f7 f8 g1 g2 g3 e1 hel0
              obtain ⟨M, hM⟩ : ∃ M, wr.heap.size = M := ⟨_, rfl⟩
              rw [hM] at M6 hz
              rw [hM]
              clear hM
              generalize wr.alloc (.cells (bcells zeroL) 4) = w6 at *
              go_loopw [14] (fun c wr => ∃ k : Nat, c = .int .i64 k ∧ k ≤ q ∧ Hid (HasG wr A P q 4) ∧ Hid (HasB wr (A + 1) (sqL (2 * q + 1) (2 * q))) ∧ Hid (HasB wr M (metL q y k)) ∧ Hid (Below w.heap.size w wr)) (fun c _ => (403 - intOf c).toNat)
              case atStart => exact ⟨0, rfl, by omega, G6, S6, M6, B6⟩
              case round =>
                clear G6 S6 M6 B6
                obtain ⟨k, rfl, hk, hg, hs, hm, hb⟩ := hrel
                obtain ⟨g1, g2, g3⟩ := hg.out.cells
                by_cases hlt : (k : Int) < q
                · have hgp := mkHid (gp_nat HC.out y k (by omega))
                  rw [HP.out] at hgp
                  have hv1 := yk_lt q y k
                  have hv2 := yk_el q y k (by omega) Y2.out
                  have hv3 := (eln_iff q _).1 hv2
                  have hst : Hid (metL q y (k + 1) = (metL q y k).set (yk q y k) true) := mkHid rfl
                  have hno := metL_no q y (yk q y k) k (fun j hj => yk_ne q y (by omega) Y2.out YN.out j k hj (by omega))
                  have hsq := cyc_sq HC.out (yk q y k) (by omega)
                  rw [hv2, decide_eq_true hv1, Bool.true_and] at hsq
                  generalize yk q y k = v at *
                  have l1 : ¬ (v : Int) < 1 := by omega
                  have l2 : ¬ P ≤ (v : Int) := by have := HP.out; omega
                  have l3 : (v : Int) < 403 := by omega
                  have l4 : ¬ 403 ≤ (v : Int) := by omega
                  have l5 := mkHid hv1
                  have HNO := mkHid hno
                  have HSQ := mkHid hsq
                  clear hno hsq hv1 hv2 hv3
                  go_wp2_with fail
                  refine (power_g_any P q 4 y k _).mono ?_
                  rintro e w7 ⟨rfl, b7⟩
                  rw [hgp.out]
                  have G7 := mkHid (hg.out.below b7)
                  have S7 := mkHid (hs.out.step b7)
                  have M7 := mkHid (hm.out.step b7)
                  have B7 := mkHid (hb.out.trans (b7.mono hb.out.size))
                  clear b7 hg hs hm hb g1 g2 g3
                  obtain ⟨g1, g2, g3⟩ := G7.out.cells
                  have k1 := M7.out.cell v (by rw [metL_len]; omega)
                  have k2 := S7.out.cell v (by rw [sqL_len]; omega)
                  rw [HNO.out] at k1
                  rw [← HSQ.out] at k2
                  have k3 := M7.out.free v
                  go_wp2_with fail
                  go_roundw
                  case rel => exact ⟨k + 1, by go_num, by omega, mkHid (G7.out.other _ _ (by show M ≠ A; have := hz.out; omega)), mkHid (S7.out.other _ _ (by show M ≠ A + 1; have := hz.out; omega)), mkHid (by rw [hst.out]; exact M7.out.set _ _), mkHid (below_setCell B7.out (by show w.heap.size ≤ M; have := hz.out; have := ha.out; omega) _)⟩
                  case measure => simp only [intOf]; omega
                · have hgp := mkHid (gp_last HC.out y)
                  rw [HP.out] at hgp
                  go_wp2_with fail
                  refine (power_g_any P q 4 y q _).mono ?_
                  rintro e w7 ⟨rfl, b7⟩
                  rw [hgp.out]
                  have B7 := mkHid (hb.out.trans (b7.mono hb.out.size))
                  go_wp2
                  go_ret
                  exact ⟨rfl, B7.out⟩
end Go.Proofs.YtbllanmhbfnagaaDoor
