/- FieldGroups: what the property's function computes (walk). -/
import Derived.Test.YtbllanmhbfnagaaDoorRL
import Derived.Test.YtbllanmhbfnagaaDoorLB
import Derived.Outline
set_option linter.unusedVariables false
set_option linter.unusedSimpArgs false
namespace Go.Proofs.YtbllanmhbfnagaaDoor
open Go.RowKit Go.Sort
def mkOk (q : Int) : Bool := vgB (2 * q + 1) q 4
def mkP (q : Int) : Int := if mkOk q then 2 * q + 1 else 0
def mkQ (q : Int) : Int := if mkOk q then q else 0
def mkG (q : Int) : Int := if mkOk q then 4 else 0
theorem make_any (q : Int) (w : World) (hT : Tab w) :
    Calls Tryd.prog 37 #[.int .i64 q] w fun e w' => e = .returned (.tuple #[.agg #[.int .i64 (mkP q), .int .i64 (mkQ q), .int .i64 (mkG q)], .bool (mkOk q)]) ∧ Below w.heap.size w w' := by
  unfold mkP mkQ mkG mkOk
  cases h : vgB (2 * q + 1) q 4 with
  | false => exact make_no q w hT h
  | true => exact make_yes q w hT h
theorem rmake_any (q : Int) (w : World) :
    Calls Tryd.prog 45 #[.int .i64 q] w fun e w' => e = .returned (.tuple #[.agg #[.int .i64 (mkP q), .int .i64 (mkQ q), .int .i64 (mkG q)], .bool (mkOk q)]) ∧ Below w.heap.size w w' := by
  unfold mkP mkQ mkG mkOk
  cases h : vgB (2 * q + 1) q 4 with
  | false => exact rmake_no q w h
  | true => exact rmake_yes q w h
set_option maxHeartbeats 4000000 in
set_option maxRecDepth 100000 in
theorem groups_long (P Q G q x k : Int) (a1 a2 : Option Addr) (n1 c1 n2 c2 : Nat) (s : ByteArray) (w : World) (hT : Tab w) (hl : 12 < n1 ∨ 12 < n2 ∨ 100 < s.size) :
    Calls Tryd.prog 11 #[grpV P Q G, .int .i64 q, .int .i64 x, .int .i64 k, .slice a1 n1 c1, .slice a2 n2 c2, .string s] w fun e w' => e = .returned (.bool true) ∧ Below w.heap.size w w' := by
  unfold grpV gcells
  have HT := mkHid hT
  clear hT
  have B0 := mkHid ((Below.refl w.heap.size w).alloc (Nat.le_refl _) (.cells (gcells P Q G) 38))
  by_cases h1 : (12 : Int) < n1
  · clear hl
    go_enter Tryd.func11, Tryd.ntmps11
    go_wp2_with fail
    refine (sane_any _ (HT.out.step ((Below.refl _ w).alloc (Nat.le_refl _) _))).mono ?_
    rintro e w1 ⟨rfl, b1⟩
    have B1 := mkHid (B0.out.trans (b1.mono B0.out.size))
    clear b1
    go_wp2
    go_ret
    exact ⟨rfl, B1.out⟩
  by_cases h2 : (12 : Int) < n2
  · clear hl
    go_enter Tryd.func11, Tryd.ntmps11
    go_wp2_with fail
    refine (sane_any _ (HT.out.step ((Below.refl _ w).alloc (Nat.le_refl _) _))).mono ?_
    rintro e w1 ⟨rfl, b1⟩
    have B1 := mkHid (B0.out.trans (b1.mono B0.out.size))
    clear b1
    go_wp2
    go_ret
    exact ⟨rfl, B1.out⟩
  have h3 : (100 : Int) < s.size := by omega
  clear hl
  go_enter Tryd.func11, Tryd.ntmps11
  go_wp2_with fail
  refine (sane_any _ (HT.out.step ((Below.refl _ w).alloc (Nat.le_refl _) _))).mono ?_
  rintro e w1 ⟨rfl, b1⟩
  have B1 := mkHid (B0.out.trans (b1.mono B0.out.size))
  clear b1
  go_wp2
  go_ret
  exact ⟨rfl, B1.out⟩
set_option maxHeartbeats 8000000 in
set_option maxRecDepth 100000 in
theorem groups_walk (P Q G q x k : Int) (a1 a2 : Option Addr) (n1 c1 n2 c2 : Nat) (l1 l2 : List Int) (s : ByteArray) (w : World) (hT : Tab w) (i1 : ArgI w a1 n1 l1) (i2 : ArgI w a2 n2 l2) :
    Calls Tryd.prog 11 #[grpV P Q G, .int .i64 q, .int .i64 x, .int .i64 k, .slice a1 n1 c1, .slice a2 n2 c2, .string s] w fun e w' => e = .returned (.bool true) ∧ Below w.heap.size w w' := by
  by_cases hl : 12 < n1 ∨ 12 < n2 ∨ 100 < s.size
  · exact groups_long P Q G q x k a1 a2 n1 c1 n2 c2 s w hT hl
  have h1 : ¬ (12 : Int) < n1 := by omega
  have h2 : ¬ (12 : Int) < n2 := by omega
  have h3 : ¬ (100 : Int) < s.size := by omega
  have HN : Hid (n1 ≤ 1000000 ∧ s.size ≤ 1099511627776) := mkHid (by omega)
  clear hl
  have I1 := mkHid i1
  have I2 := mkHid i2
  have HT := mkHid hT
  clear hT i1 i2
  have cV : ∀ W : World, Tab W → Calls Tryd.prog 41 #[grpV P Q G] W fun e w' => e = .returned (.bool (vgB P Q G)) ∧ Below W.heap.size W w' := fun W h => valid_group_any P Q G W h
  have rV : ∀ W : World, Calls Tryd.prog 47 #[grpV P Q G] W fun e w' => e = .returned (.bool (vgB P Q G)) ∧ Below W.heap.size W w' := fun W => rvalid_group_any P Q G W
  have cE : ∀ W : World, Tab W → Calls Tryd.prog 38 #[grpV P Q G, .int .i64 x] W fun e w' => e = .returned (.bool (elB P Q G x)) ∧ Below W.heap.size W w' := fun W h => element_any P Q G x W h
  have rE : ∀ W : World, Calls Tryd.prog 48 #[grpV P Q G, .int .i64 x] W fun e w' => e = .returned (.bool (elB P Q G x)) ∧ Below W.heap.size W w' := fun W => relement_any P Q G x W
  have cP : ∀ W : World, Calls Tryd.prog 39 #[grpV P Q G, .int .i64 x, .int .i64 k] W fun e w' => e = .returned (.int .i64 (gpI P Q x k)) ∧ Below W.heap.size W w' := fun W => power_g_any P Q G x k W
  have rP : ∀ W : World, Calls Tryd.prog 49 #[grpV P Q G, .int .i64 x, .int .i64 k] W fun e w' => e = .returned (.int .i64 (gpI P Q x k)) ∧ Below W.heap.size W w' := fun W => rpower_g_any P Q G x k W
  have cT : ∀ W : World, Calls Tryd.prog 42 #[grpV P Q G, .int .i64 x, .int .i64 k] W fun e w' => e = .returned (.int .i64 (gtI P Q x k)) ∧ Below W.heap.size W w' := fun W => times_any P Q G x k W
  have rT : ∀ W : World, Calls Tryd.prog 50 #[grpV P Q G, .int .i64 x, .int .i64 k] W fun e w' => e = .returned (.int .i64 (gtI P Q x k)) ∧ Below W.heap.size W w' := fun W => rtimes_any P Q G x k W
  have cO : ∀ W : World, Calls Tryd.prog 43 #[grpV P Q G, .int .i64 x, .int .i64 k] W fun e w' => e = .returned (.int .i64 (gtI P Q x (powS P k (-1)))) ∧ Below W.heap.size W w' := fun W => over_any P Q G x k W
  have rO : ∀ W : World, Calls Tryd.prog 51 #[grpV P Q G, .int .i64 x, .int .i64 k] W fun e w' => e = .returned (.int .i64 (gtI P Q x (powS P k (-1)))) ∧ Below W.heap.size W w' := fun W => rover_any P Q G x k W
  have cB : ∀ W : World, Tab W → Calls Tryd.prog 40 #[grpV P Q G, .string s] W fun e w' => e = .returned (.int .i64 (baseI P Q G (bytesN s))) ∧ Below W.heap.size W w' := fun W h => base_any P Q G s W h HN.out.2
  have rB : ∀ W : World, Calls Tryd.prog 52 #[grpV P Q G, .string s] W fun e w' => e = .returned (.int .i64 (baseI P Q G (bytesN s))) ∧ Below W.heap.size W w' := fun W => rbase_any P Q G s W HN.out.2
  have cQ : ∀ W : World, ArgI W a1 n1 l1 → ArgI W a2 n2 l2 → Calls Tryd.prog 44 #[grpV P Q G, .slice a1 n1 c1, .slice a2 n2 c2] W fun e w' => e = .returned (.tuple #[.int .i64 (prodV P Q l1 l2 n1 n2), .bool (prodOk P Q n1 n2)]) ∧ Below W.heap.size W w' := fun W h1 h2 => gprod_gen P Q G a1 a2 n1 c1 n2 c2 l1 l2 W h1 h2 HN.out.1
  have rQ : ∀ W : World, ArgI W a1 n1 l1 → ArgI W a2 n2 l2 → Calls Tryd.prog 46 #[grpV P Q G, .slice a1 n1 c1, .slice a2 n2 c2] W fun e w' => e = .returned (.tuple #[.int .i64 (prodV P Q l1 l2 n1 n2), .bool (prodOk P Q n1 n2)]) ∧ Below W.heap.size W w' := fun W h1 h2 => rgprod_gen P Q G a1 a2 n1 c1 n2 c2 l1 l2 W h1 h2 HN.out.1
  have cM : ∀ W : World, Tab W → Calls Tryd.prog 37 #[.int .i64 q] W fun e w' => e = .returned (.tuple #[.agg #[.int .i64 (mkP q), .int .i64 (mkQ q), .int .i64 (mkG q)], .bool (mkOk q)]) ∧ Below W.heap.size W w' := fun W h => make_any q W h
  have rM : ∀ W : World, Calls Tryd.prog 45 #[.int .i64 q] W fun e w' => e = .returned (.tuple #[.agg #[.int .i64 (mkP q), .int .i64 (mkQ q), .int .i64 (mkG q)], .bool (mkOk q)]) ∧ Below W.heap.size W w' := fun W => rmake_any q W
  unfold grpV gcells at cV rV cE rE cP rP cT rT cO rO cB rB cQ rQ ⊢
  generalize vgB P Q G = y1 at *
  generalize elB P Q G x = y2 at *
  generalize gpI P Q x k = y3 at *
  generalize gtI P Q x (powS P k (-1)) = y5 at *
  generalize gtI P Q x k = y4 at *
  generalize baseI P Q G (bytesN s) = y6 at *
  generalize prodV P Q l1 l2 n1 n2 = y7 at *
  generalize prodOk P Q n1 n2 = y8 at *
  generalize mkP q = z1 at *
  generalize mkQ q = z2 at *
  generalize mkG q = z3 at *
  generalize mkOk q = z4 at *
  have CV := mkHid cV
  have RV := mkHid rV
  have CE := mkHid cE
  have RE := mkHid rE
  have CP := mkHid cP
  have RP := mkHid rP
  have CT := mkHid cT
  have RT := mkHid rT
  have CO := mkHid cO
  have RO := mkHid rO
  have CB := mkHid cB
  have RB := mkHid rB
  have CQ := mkHid cQ
  have RQ := mkHid rQ
  have CM := mkHid cM
  have RM := mkHid rM
  clear cV rV cE rE cP rP cT rT cO rO cB rB cQ rQ cM rM
  have B0 := mkHid ((Below.refl w.heap.size w).alloc (Nat.le_refl _) (.cells (gcells P Q G) 38))
  have G0 := mkHid (HasG.new w P Q G)
  go_enter Tryd.func11, Tryd.ntmps11
  go_wp2_with fail
  refine (sane_any _ (HT.out.step ((Below.refl _ w).alloc (Nat.le_refl _) _))).mono ?_
  rintro e w1 ⟨rfl, b1⟩
  have B1 := mkHid (B0.out.trans (b1.mono B0.out.size))
  have G1 := mkHid (G0.out.below b1)
  clear b1 B0 G0
  go_wp2_with fail
  refine (CM.out _ (HT.out.step B1.out)).mono ?_
  rintro e w2 ⟨rfl, b2⟩
  have B2 := mkHid (B1.out.trans (b2.mono B1.out.size))
  have G2 := mkHid (G1.out.below b2)
  clear b2 B1 G1
  go_wp2_with (refine wpList_store_abs rfl 38 (.tmp 16) (.tmp 42) rfl w2.heap.size #[.int .i64 z1, .int .i64 z2, .int .i64 z3] ?s1 ?s2 38 _ (heap_alloc_last _ _) (ginf z1 z2 z3) rfl (gone z1 z2 z3) ?_; (case s1 => rfl); (case s2 => rfl); intro w3 s3 u3; have S3 : Hid (HasG w3 w2.heap.size z1 z2 z3) := mkHid s3; have G3 := mkHid ((G2.out.alloc (.cells (gcells 0 0 0) 38)).upd u3 (by have := G2.out.lt; omega)); have B3 := mkHid (u3.below (B2.out.alloc B2.out.size _) B2.out.size); clear s3 u3 G2 B2)
  refine (RM.out _).mono ?_
  rintro e w4 ⟨rfl, b4⟩
  have B4 := mkHid (B3.out.trans (b4.mono B3.out.size))
  have G4 := mkHid (G3.out.below b4)
  have S4 := mkHid (S3.out.below b4)
  clear b4 B3 G3 S3
  go_wp2_with (refine wpList_store_abs rfl 38 (.tmp 18) (.tmp 47) rfl w4.heap.size #[.int .i64 z1, .int .i64 z2, .int .i64 z3] ?s5 ?s6 38 _ (heap_alloc_last _ _) (ginf z1 z2 z3) rfl (gone z1 z2 z3) ?_; (case s5 => rfl); (case s6 => rfl); intro w5 s5 u5; have R5 : Hid (HasG w5 w4.heap.size z1 z2 z3) := mkHid s5; have S5 := mkHid ((S4.out.alloc (.cells (gcells 0 0 0) 38)).upd u5 (by have := S4.out.lt; omega)); have G5 := mkHid ((G4.out.alloc (.cells (gcells 0 0 0) 38)).upd u5 (by have := G4.out.lt; omega)); have B5 := mkHid (u5.below (B4.out.alloc B4.out.size _) B4.out.size); have g5 := G5.out.cells; clear s5 u5 G4 B4 S4; obtain ⟨k1, k2, k3⟩ := g5)
  generalize w4.heap.size = A4 at *
  generalize w2.heap.size = A2 at *
  refine (CQ.out _ (I1.out.below B5.out) (I2.out.below B5.out)).mono ?_
  rintro e w6 ⟨rfl, b6⟩
  have B6 := mkHid (B5.out.trans (b6.mono B5.out.size))
  have G6 := mkHid (G5.out.below b6)
  have S6 := mkHid (S5.out.below b6)
  have R6 := mkHid (R5.out.below b6)
  clear b6 B5 G5 S5 R5 k1 k2 k3
  obtain ⟨k1, k2, k3⟩ := G6.out.cells
  go_wp2_with fail
  refine (RQ.out _ (I1.out.below B6.out) (I2.out.below B6.out)).mono ?_
  rintro e w7 ⟨rfl, b7⟩
  have B7 := mkHid (B6.out.trans (b7.mono B6.out.size))
  have G7 := mkHid (G6.out.below b7)
  have S7 := mkHid (S6.out.below b7)
  have R7 := mkHid (R6.out.below b7)
  have T7 := mkHid (HT.out.step B7.out)
  clear b7 B6 G6 S6 R6 k1 k2 k3 CQ RQ CM RM I1 I2 HN
  obtain ⟨g1, g2, g3⟩ := G7.out.cells
  obtain ⟨s1, s2, s3⟩ := S7.out.cells
  obtain ⟨r1, r2, r3⟩ := R7.out.cells
  go_upto_region 8 with (fail)
  have m1 := cell_regrown g1
  have m2 := cell_regrown g2
  have m3 := cell_regrown g3
  have m4 := cell_regrown s1
  have m5 := cell_regrown s2
  have m6 := cell_regrown s3
  have m7 := cell_regrown r1
  have m8 := cell_regrown r2
  have m9 := cell_regrown r3
  clear g1 g2 g3 s1 s2 s3 r1 r2 r3
  have k1 := regr w7 (fun W hb => CV.out W (T7.out.step hb))
  have k2 := regr w7 (fun W hb => RV.out W)
  have k3 := regr w7 (fun W hb => CE.out W (T7.out.step hb))
  have k4 := regr w7 (fun W hb => RE.out W)
  refine wp_region_quiet_below (by kernel_rfl) (by kernel_rfl) ?_
  repeat (quiet_step (with_reducible (first | exact k1 _ _ | exact k2 _ _ | exact k3 _ _ | exact k4 _ _)))
  refine wpQuiet_nil ?_
  intro _ hw'
  obtain ⟨⟨dq, osq⟩, hw''⟩ := hw'
  subst hw''
  have hbb := below_regrown w7 dq osq
  have B8 := mkHid (B7.out.trans (hbb.mono B7.out.size))
  have G8 := mkHid (G7.out.below hbb)
  have T8 := mkHid (T7.out.step hbb)
  clear hbb m1 m2 m3 m4 m5 m6 m7 m8 m9 k1 k2 k3 k4 B7 G7 S7 R7 T7 CV RV CE RE
  generalize grow (redrawn w7 dq) osq = w8 at *
  obtain ⟨g1, g2, g3⟩ := G8.out.cells
  go_upto_region 10 with (fail)
  have m1 := cell_regrown g1
  have m2 := cell_regrown g2
  have m3 := cell_regrown g3
  clear g1 g2 g3
  have k1 := regr w8 (fun W hb => CP.out W)
  have k2 := regr w8 (fun W hb => RP.out W)
  have k3 := regr w8 (fun W hb => CT.out W)
  have k4 := regr w8 (fun W hb => RT.out W)
  have k5 := regr w8 (fun W hb => CO.out W)
  have k6 := regr w8 (fun W hb => RO.out W)
  have k7 := regr w8 (fun W hb => CB.out W (T8.out.step hb))
  have k8 := regr w8 (fun W hb => RB.out W)
  refine wp_region_quiet_below (by kernel_rfl) (by kernel_rfl) ?_
  repeat (quiet_step (with_reducible (first | exact k1 _ _ | exact k2 _ _ | exact k3 _ _ | exact k4 _ _ | exact k5 _ _ | exact k6 _ _ | exact k7 _ _ | exact k8 _ _)))
  refine wpQuiet_nil ?_
  intro _ hw'
  obtain ⟨⟨dq, osq⟩, hw''⟩ := hw'
  subst hw''
  have B9 := mkHid (B8.out.trans ((below_regrown w8 dq osq).mono B8.out.size))
  clear k1 k2 k3 k4 k5 k6 k7 k8
  generalize grow (redrawn w8 dq) osq = w9 at *
  go_wp2
  go_ret
  exact ⟨rfl, B9.out⟩
end Go.Proofs.YtbllanmhbfnagaaDoor
