/- Groups of the reference: Make (walk). Products in a group, of whatever slices (walks). -/
import Derived.Test.YtbllanmhbfnagaaDoorU26
import Derived.Test.YtbllanmhbfnagaaDoorU11
set_option linter.unusedVariables false
set_option linter.unusedSimpArgs false
namespace Go.Proofs.YtbllanmhbfnagaaDoor
open Go.RowKit Go.Sort
set_option maxHeartbeats 2000000 in
set_option maxRecDepth 100000 in
theorem rmake_no (q : Int) (w : World) (h : vgB (2 * q + 1) q 4 = false) :
    Calls Tryd.prog 45 #[.int .i64 q] w fun e w' => e = .returned (.tuple #[grpV 0 0 0, .bool false]) ∧ Below w.heap.size w w' := by
  have HV := mkHid h
  clear h
  have B1 := mkHid ((Below.refl w.heap.size w).alloc (Nat.le_refl _) (.cells (gcells 0 0 0) 38))
  by_cases h1 : q < 5
  · go_enter Tryd.func45, Tryd.ntmps45
    go_wp2
    exact bodyPost_ret (v := .tuple #[.agg (gcells 0 0 0), .bool false]) (results_cell_tmp_row (p := 2) (u := 3) (by kernel_rfl) _ _ w.heap.size 38 (gcells 0 0 0) (0, 0) _ rfl (HasG.new w 0 0 0) Tryd.underlying38 rfl (ginf 0 0 0)) rfl ⟨rfl, B1.out⟩
  by_cases h2 : 1152921504606846976 ≤ q
  · go_enter Tryd.func45, Tryd.ntmps45
    go_wp2
    exact bodyPost_ret (v := .tuple #[.agg (gcells 0 0 0), .bool false]) (results_cell_tmp_row (p := 2) (u := 3) (by kernel_rfl) _ _ w.heap.size 38 (gcells 0 0 0) (0, 0) _ rfl (HasG.new w 0 0 0) Tryd.underlying38 rfl (ginf 0 0 0)) rfl ⟨rfl, B1.out⟩
  go_enter Tryd.func45, Tryd.ntmps45
  go_wp2_with (first | (refine wpList_store_abs rfl 38 (.tmp 4) (.tmp 16) rfl (w.heap.size + 1) (gcells (2 * q + 1) q 4) ?s1 ?s2 38 _ (heap_alloc2_new _ _ _) (ginf _ _ _) rfl (gone _ _ _) ?_; (case s1 => rfl); (case s2 => rfl); intro W2 s2 u2; have S2 : Hid (HasG W2 (w.heap.size + 1) (2 * q + 1) q 4) := mkHid s2; have R2 := mkHid ((HasG.new w 0 0 0).alloc (.cells (gcells 0 0 0) 38) |>.upd u2 (by omega)); have C2 := mkHid (u2.below (B1.out.alloc B1.out.size (.cells (gcells 0 0 0) 38)) (by omega)); clear s2 u2) | (refine wpList_load_row rfl 38 (.tmp 4) rfl (w.heap.size + 1) ?x1 38 (gcells (2 * q + 1) q 4) (0, 0) _ S2.out Tryd.underlying38 rfl (ginf _ _ _) ?_; (case x1 => rfl)))
  refine (rvalid_group_any (2 * q + 1) q 4 _).mono ?_
  rintro e w3 ⟨rfl, b3⟩
  rw [HV.out]
  have R3 := mkHid (R2.out.below b3)
  have S3 := mkHid (S2.out.below b3)
  have C3 := mkHid (C2.out.trans (b3.mono C2.out.size))
  clear R2 S2 C2 b3
  go_wp2_with (refine wpList_store_abs rfl 38 (.tmp 2) (.tmp 20) rfl w.heap.size (gcells 0 0 0) ?t1 ?t2 38 _ R3.out (ginf _ _ _) rfl (gone _ _ _) ?_; (case t1 => rfl); (case t2 => rfl); intro W4 s4 u4; have S4 : Hid (HasG W4 w.heap.size 0 0 0) := mkHid s4; have C4 := mkHid (u4.below C3.out (by omega)); clear s4 u4 R3 S3 C3)
  exact bodyPost_ret (v := .tuple #[.agg (gcells 0 0 0), .bool false]) (results_cell_tmp_row (p := 2) (u := 3) (by kernel_rfl) _ _ w.heap.size 38 (gcells 0 0 0) (0, 0) _ rfl S4.out Tryd.underlying38 rfl (ginf 0 0 0)) rfl ⟨rfl, C4.out⟩
set_option maxHeartbeats 2000000 in
set_option maxRecDepth 100000 in
theorem rmake_yes (q : Int) (w : World) (h : vgB (2 * q + 1) q 4 = true) :
    Calls Tryd.prog 45 #[.int .i64 q] w fun e w' => e = .returned (.tuple #[grpV (2 * q + 1) q 4, .bool true]) ∧ Below w.heap.size w w' := by
  have HV := mkHid h
  have B1 := mkHid ((Below.refl w.heap.size w).alloc (Nat.le_refl _) (.cells (gcells 0 0 0) 38))
  have h1 : ¬ q < 5 := by have := ((vgB_iff _ _ _).1 h).q5; omega
  have h2 : ¬ 1152921504606846976 ≤ q := by have := ((vgB_iff _ _ _).1 h).qm; omega
  clear h
  go_enter Tryd.func45, Tryd.ntmps45
  go_wp2_with (first | (refine wpList_store_abs rfl 38 (.tmp 4) (.tmp 16) rfl (w.heap.size + 1) (gcells (2 * q + 1) q 4) ?s1 ?s2 38 _ (heap_alloc2_new _ _ _) (ginf _ _ _) rfl (gone _ _ _) ?_; (case s1 => rfl); (case s2 => rfl); intro W2 s2 u2; have S2 : Hid (HasG W2 (w.heap.size + 1) (2 * q + 1) q 4) := mkHid s2; have R2 := mkHid ((HasG.new w 0 0 0).alloc (.cells (gcells 0 0 0) 38) |>.upd u2 (by omega)); have C2 := mkHid (u2.below (B1.out.alloc B1.out.size (.cells (gcells 0 0 0) 38)) (by omega)); clear s2 u2) | (refine wpList_load_row rfl 38 (.tmp 4) rfl (w.heap.size + 1) ?x1 38 (gcells (2 * q + 1) q 4) (0, 0) _ S2.out Tryd.underlying38 rfl (ginf _ _ _) ?_; (case x1 => rfl)))
  refine (rvalid_group_any (2 * q + 1) q 4 _).mono ?_
  rintro e w3 ⟨rfl, b3⟩
  rw [HV.out]
  have R3 := mkHid (R2.out.below b3)
  have S3 := mkHid (S2.out.below b3)
  have C3 := mkHid (C2.out.trans (b3.mono C2.out.size))
  clear R2 S2 C2 b3
  go_wp2_with (first | (refine wpList_load_row rfl 38 (.tmp 4) rfl (w.heap.size + 1) ?x2 38 (gcells (2 * q + 1) q 4) (0, 0) _ S3.out Tryd.underlying38 rfl (ginf _ _ _) ?_; (case x2 => rfl)) | (refine wpList_store_abs rfl 38 (.tmp 2) (.tmp 21) rfl w.heap.size (gcells (2 * q + 1) q 4) ?t1 ?t2 38 _ R3.out (ginf _ _ _) rfl (gone _ _ _) ?_; (case t1 => rfl); (case t2 => rfl); intro W4 s4 u4; have S4 : Hid (HasG W4 w.heap.size (2 * q + 1) q 4) := mkHid s4; have C4 := mkHid (u4.below C3.out (by omega)); clear s4 u4 R3 S3 C3))
  exact bodyPost_ret (v := .tuple #[.agg (gcells (2 * q + 1) q 4), .bool true]) (results_cell_tmp_row (p := 2) (u := 3) (by kernel_rfl) _ _ w.heap.size 38 (gcells (2 * q + 1) q 4) (0, 0) _ rfl S4.out Tryd.underlying38 rfl (ginf _ _ _)) rfl ⟨rfl, C4.out⟩
end Go.Proofs.YtbllanmhbfnagaaDoor
namespace Go.Proofs.YtbllanmhbfnagaaDoor
open Go.RowKit Go.Sort
/-- A slice of ints that came in. -/
structure ArgI (w : World) (ao : Option Addr) (n : Nat) (l : List Int) : Prop where
  len : n = l.length
  here : 0 < n → ∃ g o, ao = some ⟨g, o, none⟩ ∧ (∀ j, j < n → w.cell? ⟨g, o + j, none⟩ = some (.int .i64 (l.getD j 0))) ∧ g < w.heap.size
theorem ArgI.below {w w' : World} {ao : Option Addr} {n : Nat} {l : List Int} (h : ArgI w ao n l) (hb : Below w.heap.size w w') : ArgI w' ao n l :=
  ⟨h.len, fun hn => by
    obtain ⟨g, o, e, hc, hl⟩ := h.here hn
    exact ⟨g, o, e, fun j hj => (hb.cell (p := ⟨g, o + j, none⟩) hl).trans (hc j hj), Nat.lt_of_lt_of_le hl hb.size⟩⟩
def prodOk (P Q : Int) (n1 n2 : Nat) : Bool := modB P && modB Q && (n1 == n2)
def prodV (P Q : Int) (l1 l2 : List Int) (n1 n2 : Nat) : Int := if prodOk P Q n1 n2 then prodL P Q l1 l2 n1 else 0
set_option maxHeartbeats 4000000 in
set_option maxRecDepth 100000 in
theorem rgprod_any (P Q G : Int) (g1 o1 c1 g2 o2 c2 n : Nat) (bs es : List Int) (w : World) (hP : modB P = true) (hQ : modB Q = true) (hb : bs.length = n) (he : es.length = n) (hn : n ≤ 1000000)
    (h1 : ∀ j, j < n → w.cell? ⟨g1, o1 + j, none⟩ = some (.int .i64 (bs.getD j 0))) (h2 : ∀ j, j < n → w.cell? ⟨g2, o2 + j, none⟩ = some (.int .i64 (es.getD j 0))) (l1 : g1 < w.heap.size) (l2 : g2 < w.heap.size) :
    Calls Tryd.prog 46 #[grpV P Q G, .slice (some ⟨g1, o1, none⟩) n c1, .slice (some ⟨g2, o2, none⟩) n c2] w fun e w' => e = .returned (.tuple #[.int .i64 (prodL P Q bs es n), .bool true]) ∧ Below w.heap.size w w' := by
  have rp : ∀ (x k : Int) (W : World), Calls Tryd.prog 49 #[grpV P Q G, .int .i64 x, .int .i64 k] W fun e w' => e = .returned (.int .i64 (gpI P Q x k)) ∧ Below W.heap.size W w' := fun x k W => rpower_g_any P Q G x k W
  unfold grpV gcells at rp ⊢
  have RP := mkHid rp
  have V := mkHid hP
  have U := mkHid hQ
  have hp := mkHid (modB_iff.1 hP)
  have H1 := mkHid h1
  have H2 := mkHid h2
  clear rp hP hQ h1 h2 hb he
  obtain ⟨p1, p2⟩ := hp.out
  obtain ⟨o, ho⟩ : ∃ y, (1 : Int) % P = y := ⟨_, rfl⟩
  have ho2 : (1 : Int).tmod P = o := by rw [Int.tmod_eq_emod_of_nonneg (by omega)]; exact ho
  have hp0 : ¬ P = 0 := by omega
  have HO : Hid (prodL P Q bs es 0 = o) := mkHid ho
  have B0 := mkHid ((Below.refl w.heap.size w).alloc (Nat.le_refl _) (.cells (gcells P Q G) 38))
  have G0 := mkHid (HasG.new w P Q G)
  go_enter Tryd.func46, Tryd.ntmps46
  go_wp2_with fail
  refine (rvalid_yes P _ V.out).mono ?_
  rintro e w' ⟨rfl, rfl⟩
  go_wp2_with fail
  refine (rvalid_yes Q _ U.out).mono ?_
  rintro e w' ⟨rfl, rfl⟩
  go_wp2_with fail
  simp only [gcells] at B0
  have G1 : Hid (HasG (w.alloc (.cells #[.int .i64 P, .int .i64 Q, .int .i64 G] 38)) w.heap.size P Q G) := G0
  clear G0
  have L1 : g1 < (w.alloc (.cells #[.int .i64 P, .int .i64 Q, .int .i64 G] 38)).heap.size := Nat.lt_of_lt_of_le l1 B0.out.size
  generalize w.alloc (.cells #[.int .i64 P, .int .i64 Q, .int .i64 G] 38) = W1 at *
  go_loopw [8, 9] (fun c d wr => ∃ (j : Nat), c = .int .i64 (prodL P Q bs es j) ∧ d = .int .i64 j ∧ j ≤ n ∧ Hid (HasG wr w.heap.size P Q G) ∧ Hid (Below w.heap.size w wr)) (fun _ d _ => (n - intOf d).toNat)
  case atStart => exact ⟨0, by rw [HO.out], rfl, by omega, G1, B0⟩
  case round =>
    clear G1 B0 L1
    obtain ⟨j, rfl, rfl, hj, hg, hw⟩ := hrel
    by_cases hlt : j < n
    · have hst : Hid (prodL P Q bs es (j + 1) = mulI P (prodL P Q bs es j) (gpI P Q (bs.getD j 0) (es.getD j 0))) := mkHid rfl
      have k1 := (hw.out.cell (p := ⟨g1, o1 + j, none⟩) l1).trans (H1.out j hlt)
      have k2 := (hw.out.cell (p := ⟨g2, o2 + j, none⟩) l2).trans (H2.out j hlt)
      have pb := prodL_bd P Q bs es p1 p2 j
      generalize bs.getD j 0 = x at *
      generalize es.getD j 0 = y at *
      generalize prodL P Q bs es j = s at *
      have jj : (j : Int) < n := by omega
      have cP : ∀ W : World, Calls Tryd.prog 49 #[.agg #[.int .i64 P, .int .i64 Q, .int .i64 G], .int .i64 x, .int .i64 y] W fun e w' => e = .returned (.int .i64 (gpI P Q x y)) ∧ Below W.heap.size W w' := fun W => RP.out x y W
      have cM : ∀ W : World, Calls Tryd.prog 29 #[.int .i64 P, .int .i64 s, .int .i64 (gpI P Q x y)] W fun e w' => e = .returned (.int .i64 (mulI P s (gpI P Q x y))) ∧ Below W.heap.size W w' := fun W => rmul_bb P s (gpI P Q x y) W
      rw [← hst.out] at cM
      generalize gpI P Q x y = z at *
      have HS2 : Hid (prodL P Q bs es (j + 1) = prodL P Q bs es (j + 1)) := mkHid rfl
      obtain ⟨s2, hs2⟩ : ∃ y, prodL P Q bs es (j + 1) = y := ⟨_, rfl⟩
      rw [hs2] at cM
      have HS3 := mkHid hs2
      clear hs2 HS2 hst
      go_upto_region 7 with (fail)
      obtain ⟨q0, q1, q2⟩ := hg.out.cells
      have m0 := cell_regrown q0
      have m1 := cell_regrown q1
      have m2 := cell_regrown q2
      have m3 := cell_regrown k2
      have m4 := cell_regrown k1
      have kP := regr wr (fun w _ => cP w)
      have kM := regr wr (fun w _ => cM w)
      clear q0 q1 q2 k1 k2 cP cM
      refine wp_region_quiet_below (by kernel_rfl) (by kernel_rfl) ?_
      repeat (quiet_step (with_reducible (first | exact kP _ _ | exact kM _ _)))
      refine wpQuiet_nil ?_
      intro _ hw'
      obtain ⟨⟨dq, osq⟩, hw''⟩ := hw'
      subst hw''
      clear m0 m1 m2 m3 m4 kP kM
      have hbb := below_regrown wr dq osq
      go_wp2
      go_roundw
      case rel => exact ⟨j + 1, by rw [HS3.out], by go_num, by omega, mkHid (hg.out.below hbb), mkHid (hw.out.trans (hbb.mono hw.out.size))⟩
      case measure => simp only [intOf]; omega
    · obtain rfl : j = n := by omega
      go_wp2
      go_ret2
      exact ⟨rfl, hw.out⟩
set_option maxHeartbeats 4000000 in
set_option maxRecDepth 100000 in
theorem gprod0 (P Q G : Int) (a1 a2 : Option Addr) (c1 c2 : Nat) (w : World) (hP : modB P = true) (hQ : modB Q = true) :
    Calls Tryd.prog 44 #[grpV P Q G, .slice a1 0 c1, .slice a2 0 c2] w fun e w' => e = .returned (.tuple #[.int .i64 (prodL P Q [] [] 0), .bool true]) ∧ Below w.heap.size w w' := by
  unfold grpV gcells
  have V := mkHid hP
  have U := mkHid hQ
  have hp := mkHid (modB_iff.1 hP)
  clear hP hQ
  obtain ⟨p1, p2⟩ := hp.out
  obtain ⟨o, ho⟩ : ∃ y, (1 : Int) % P = y := ⟨_, rfl⟩
  have ho2 : (1 : Int).tmod P = o := by rw [Int.tmod_eq_emod_of_nonneg (by omega)]; exact ho
  have hp0 : ¬ P = 0 := by omega
  have HO : Hid (prodL P Q [] [] 0 = o) := mkHid ho
  have B0 := mkHid ((Below.refl w.heap.size w).alloc (Nat.le_refl _) (.cells (gcells P Q G) 38))
  go_enter Tryd.func44, Tryd.ntmps44
  go_wp2_with fail
  refine (valid_yes P _ V.out).mono ?_
  rintro e w' ⟨rfl, rfl⟩
  go_wp2_with fail
  refine (valid_yes Q _ U.out).mono ?_
  rintro e w' ⟨rfl, rfl⟩
  go_wp2_with fail
  simp only [gcells] at B0
  generalize w.alloc (.cells #[.int .i64 P, .int .i64 Q, .int .i64 G] 38) = W1 at *
  go_loopw [8, 33] (fun c d wr => c = .int .i64 o ∧ d = .int .i64 0 ∧ Hid (Below w.heap.size w wr)) (fun _ _ _ => 0)
  case atStart => exact ⟨rfl, rfl, B0⟩
  case round =>
    clear B0
    obtain ⟨rfl, rfl, hb⟩ := hrel
    go_wp2
    go_ret2
    exact ⟨by rw [HO.out]; rfl, hb.out⟩
set_option maxHeartbeats 4000000 in
set_option maxRecDepth 100000 in
theorem rgprod0 (P Q G : Int) (a1 a2 : Option Addr) (c1 c2 : Nat) (w : World) (hP : modB P = true) (hQ : modB Q = true) :
    Calls Tryd.prog 46 #[grpV P Q G, .slice a1 0 c1, .slice a2 0 c2] w fun e w' => e = .returned (.tuple #[.int .i64 (prodL P Q [] [] 0), .bool true]) ∧ Below w.heap.size w w' := by
  unfold grpV gcells
  have V := mkHid hP
  have U := mkHid hQ
  have hp := mkHid (modB_iff.1 hP)
  clear hP hQ
  obtain ⟨p1, p2⟩ := hp.out
  obtain ⟨o, ho⟩ : ∃ y, (1 : Int) % P = y := ⟨_, rfl⟩
  have ho2 : (1 : Int).tmod P = o := by rw [Int.tmod_eq_emod_of_nonneg (by omega)]; exact ho
  have hp0 : ¬ P = 0 := by omega
  have HO : Hid (prodL P Q [] [] 0 = o) := mkHid ho
  have B0 := mkHid ((Below.refl w.heap.size w).alloc (Nat.le_refl _) (.cells (gcells P Q G) 38))
  go_enter Tryd.func46, Tryd.ntmps46
  go_wp2_with fail
  refine (rvalid_yes P _ V.out).mono ?_
  rintro e w' ⟨rfl, rfl⟩
  go_wp2_with fail
  refine (rvalid_yes Q _ U.out).mono ?_
  rintro e w' ⟨rfl, rfl⟩
  go_wp2_with fail
  simp only [gcells] at B0
  generalize w.alloc (.cells #[.int .i64 P, .int .i64 Q, .int .i64 G] 38) = W1 at *
  go_loopw [8, 9] (fun c d wr => c = .int .i64 o ∧ d = .int .i64 0 ∧ Hid (Below w.heap.size w wr)) (fun _ _ _ => 0)
  case atStart => exact ⟨rfl, rfl, B0⟩
  case round =>
    clear B0
    obtain ⟨rfl, rfl, hb⟩ := hrel
    go_wp2
    go_ret2
    exact ⟨by rw [HO.out]; rfl, hb.out⟩
set_option maxHeartbeats 4000000 in
set_option maxRecDepth 100000 in
theorem gprod_gen (P Q G : Int) (a1 a2 : Option Addr) (n1 c1 n2 c2 : Nat) (l1 l2 : List Int) (w : World) (h1 : ArgI w a1 n1 l1) (h2 : ArgI w a2 n2 l2) (hn1 : n1 ≤ 1000000) :
    Calls Tryd.prog 44 #[grpV P Q G, .slice a1 n1 c1, .slice a2 n2 c2] w fun e w' => e = .returned (.tuple #[.int .i64 (prodV P Q l1 l2 n1 n2), .bool (prodOk P Q n1 n2)]) ∧ Below w.heap.size w w' := by
  cases hP : modB P with
  | false =>
    have hr : Hid (prodV P Q l1 l2 n1 n2 = 0 ∧ prodOk P Q n1 n2 = false) := mkHid (by unfold prodV prodOk; rw [hP]; exact ⟨rfl, rfl⟩)
    have V := mkHid hP
    clear hP h1 h2
    unfold grpV gcells
    have B0 := mkHid ((Below.refl w.heap.size w).alloc (Nat.le_refl _) (.cells (gcells P Q G) 38))
    go_enter Tryd.func44, Tryd.ntmps44
    go_wp2_with fail
    refine (valid_no P _ V.out).mono ?_
    rintro e w' ⟨rfl, rfl⟩
    go_wp2
    go_ret2
    exact ⟨by rw [hr.out.1, hr.out.2]; rfl, B0.out⟩
  | true =>
    cases hQ : modB Q with
    | false =>
      have hr : Hid (prodV P Q l1 l2 n1 n2 = 0 ∧ prodOk P Q n1 n2 = false) := mkHid (by unfold prodV prodOk; rw [hP, hQ]; exact ⟨rfl, rfl⟩)
      have V := mkHid hP
      have U := mkHid hQ
      clear hP hQ h1 h2
      unfold grpV gcells
      have B0 := mkHid ((Below.refl w.heap.size w).alloc (Nat.le_refl _) (.cells (gcells P Q G) 38))
      go_enter Tryd.func44, Tryd.ntmps44
      go_wp2_with fail
      refine (valid_yes P _ V.out).mono ?_
      rintro e w' ⟨rfl, rfl⟩
      go_wp2_with fail
      refine (valid_no Q _ U.out).mono ?_
      rintro e w' ⟨rfl, rfl⟩
      go_wp2
      go_ret2
      exact ⟨by rw [hr.out.1, hr.out.2]; rfl, B0.out⟩
    | true =>
      by_cases he : n1 = n2
      · subst he
        have hr : prodV P Q l1 l2 n1 n1 = prodL P Q l1 l2 n1 ∧ prodOk P Q n1 n1 = true := by
          have : prodOk P Q n1 n1 = true := by unfold prodOk; rw [hP, hQ]; simp
          exact ⟨by unfold prodV; rw [this]; rfl, this⟩
        rw [hr.1, hr.2]
        rcases Nat.eq_zero_or_pos n1 with hz | hz
        · subst hz
          exact gprod0 P Q G a1 a2 c1 c2 w hP hQ
        · obtain ⟨g1, o1, rfl, k1, m1⟩ := h1.here hz
          obtain ⟨g2, o2, rfl, k2, m2⟩ := h2.here hz
          exact gprod_any P Q G g1 o1 c1 g2 o2 c2 n1 l1 l2 w hP hQ h1.len.symm h2.len.symm hn1 k1 k2 m1 m2
      · have hr : Hid (prodV P Q l1 l2 n1 n2 = 0 ∧ prodOk P Q n1 n2 = false) := mkHid (by
          have : prodOk P Q n1 n2 = false := by unfold prodOk; rw [hP, hQ]; simpa using he
          exact ⟨by unfold prodV; rw [this]; rfl, this⟩)
        have V := mkHid hP
        have U := mkHid hQ
        have he2 : ¬ (n1 : Int) = (n2 : Int) := by omega
        clear hP hQ h1 h2
        unfold grpV gcells
        have B0 := mkHid ((Below.refl w.heap.size w).alloc (Nat.le_refl _) (.cells (gcells P Q G) 38))
        go_enter Tryd.func44, Tryd.ntmps44
        go_wp2_with fail
        refine (valid_yes P _ V.out).mono ?_
        rintro e w' ⟨rfl, rfl⟩
        go_wp2_with fail
        refine (valid_yes Q _ U.out).mono ?_
        rintro e w' ⟨rfl, rfl⟩
        go_wp2
        go_ret2
        exact ⟨by rw [hr.out.1, hr.out.2]; rfl, B0.out⟩
set_option maxHeartbeats 4000000 in
set_option maxRecDepth 100000 in
theorem rgprod_gen (P Q G : Int) (a1 a2 : Option Addr) (n1 c1 n2 c2 : Nat) (l1 l2 : List Int) (w : World) (h1 : ArgI w a1 n1 l1) (h2 : ArgI w a2 n2 l2) (hn1 : n1 ≤ 1000000) :
    Calls Tryd.prog 46 #[grpV P Q G, .slice a1 n1 c1, .slice a2 n2 c2] w fun e w' => e = .returned (.tuple #[.int .i64 (prodV P Q l1 l2 n1 n2), .bool (prodOk P Q n1 n2)]) ∧ Below w.heap.size w w' := by
  cases hP : modB P with
  | false =>
    have hr : Hid (prodV P Q l1 l2 n1 n2 = 0 ∧ prodOk P Q n1 n2 = false) := mkHid (by unfold prodV prodOk; rw [hP]; exact ⟨rfl, rfl⟩)
    have V := mkHid hP
    clear hP h1 h2
    unfold grpV gcells
    have B0 := mkHid ((Below.refl w.heap.size w).alloc (Nat.le_refl _) (.cells (gcells P Q G) 38))
    go_enter Tryd.func46, Tryd.ntmps46
    go_wp2_with fail
    refine (rvalid_no P _ V.out).mono ?_
    rintro e w' ⟨rfl, rfl⟩
    go_wp2
    go_ret2
    exact ⟨by rw [hr.out.1, hr.out.2]; rfl, B0.out⟩
  | true =>
    cases hQ : modB Q with
    | false =>
      have hr : Hid (prodV P Q l1 l2 n1 n2 = 0 ∧ prodOk P Q n1 n2 = false) := mkHid (by unfold prodV prodOk; rw [hP, hQ]; exact ⟨rfl, rfl⟩)
      have V := mkHid hP
      have U := mkHid hQ
      clear hP hQ h1 h2
      unfold grpV gcells
      have B0 := mkHid ((Below.refl w.heap.size w).alloc (Nat.le_refl _) (.cells (gcells P Q G) 38))
      go_enter Tryd.func46, Tryd.ntmps46
      go_wp2_with fail
      refine (rvalid_yes P _ V.out).mono ?_
      rintro e w' ⟨rfl, rfl⟩
      go_wp2_with fail
      refine (rvalid_no Q _ U.out).mono ?_
      rintro e w' ⟨rfl, rfl⟩
      go_wp2
      go_ret2
      exact ⟨by rw [hr.out.1, hr.out.2]; rfl, B0.out⟩
    | true =>
      by_cases he : n1 = n2
      · subst he
        have hr : prodV P Q l1 l2 n1 n1 = prodL P Q l1 l2 n1 ∧ prodOk P Q n1 n1 = true := by
          have : prodOk P Q n1 n1 = true := by unfold prodOk; rw [hP, hQ]; simp
          exact ⟨by unfold prodV; rw [this]; rfl, this⟩
        rw [hr.1, hr.2]
        rcases Nat.eq_zero_or_pos n1 with hz | hz
        · subst hz
          exact rgprod0 P Q G a1 a2 c1 c2 w hP hQ
        · obtain ⟨g1, o1, rfl, k1, m1⟩ := h1.here hz
          obtain ⟨g2, o2, rfl, k2, m2⟩ := h2.here hz
          exact rgprod_any P Q G g1 o1 c1 g2 o2 c2 n1 l1 l2 w hP hQ h1.len.symm h2.len.symm hn1 k1 k2 m1 m2
      · have hr : Hid (prodV P Q l1 l2 n1 n2 = 0 ∧ prodOk P Q n1 n2 = false) := mkHid (by
          have : prodOk P Q n1 n2 = false := by unfold prodOk; rw [hP, hQ]; simpa using he
          exact ⟨by unfold prodV; rw [this]; rfl, this⟩)
        have V := mkHid hP
        have U := mkHid hQ
        have he2 : ¬ (n1 : Int) = (n2 : Int) := by omega
        clear hP hQ h1 h2
        unfold grpV gcells
        have B0 := mkHid ((Below.refl w.heap.size w).alloc (Nat.le_refl _) (.cells (gcells P Q G) 38))
        go_enter Tryd.func46, Tryd.ntmps46
        go_wp2_with fail
        refine (rvalid_yes P _ V.out).mono ?_
        rintro e w' ⟨rfl, rfl⟩
        go_wp2_with fail
        refine (rvalid_yes Q _ U.out).mono ?_
        rintro e w' ⟨rfl, rfl⟩
        go_wp2
        go_ret2
        exact ⟨by rw [hr.out.1, hr.out.2]; rfl, B0.out⟩
end Go.Proofs.YtbllanmhbfnagaaDoor
