/- FieldExponents: what the property's function computes (walk; printed by wip/tools/genld.py). -/
import Derived.Test.YtbllanmhbfnagaaDoorLB
import Derived.Test.YtbllanmhbfnagaaDoorF6
import Derived.Test.YtbllanmhbfnagaaDoorSL
set_option linter.unusedVariables false
set_option linter.unusedSimpArgs false
namespace Go.Proofs.YtbllanmhbfnagaaDoor
open Go.RowKit Go.Sort
set_option maxHeartbeats 8000000 in
set_option maxRecDepth 100000 in
theorem expo_walk (q i j k m : Int) (w : World) (hT : Tab w) :
    Calls Tryd.prog 10 #[.int .i64 q, .int .i64 i, .int .i64 j, .int .i64 k, .int .i64 m] w fun e w' => e = .returned (.bool true) ∧ Below w.heap.size w w' := by
  have HT := mkHid hT
  clear hT
  cases hv : vgB (2 * q + 1) q 4 with
  | false =>
    have HV := mkHid hv
    clear hv
    go_enter Tryd.func10, Tryd.ntmps10
    have B0 := mkHid (Below.refl w.heap.size w)
    go_wp2_with fail
    refine (sane_any _ (HT.out.step B0.out)).mono ?_
    rintro e w1 ⟨rfl, b1⟩
    have B1 := mkHid (B0.out.trans (b1.mono B0.out.size))
    clear b1 B0
    go_wp2_with fail
    refine (make_no q _ (HT.out.step B1.out) HV.out).mono ?_
    rintro e w2 ⟨rfl, b2⟩
    have B2 := mkHid (B1.out.trans (b2.mono B1.out.size))
    clear b2 B1
    have ha := mkHid B2.out.size
    simp only [grpV, gcells]
    go_wp2_with (refine wpList_store_abs rfl 38 (.tmp 12) (.tmp 26) rfl w2.heap.size #[.int .i64 0, .int .i64 0, .int .i64 0] ?s1 ?s2 38 _ (heap_alloc_last _ _) (ginf 0 0 0) rfl (gone 0 0 0) ?_; (case s1 => rfl); (case s2 => rfl); intro w3 s3 u3; have B3 := mkHid (u3.below (B2.out.alloc B2.out.size _) ha.out); clear s3 u3 B2)
    go_ret
    exact ⟨rfl, B3.out⟩
  | true =>
    have vg := (vgB_iff _ _ _).1 hv
    obtain ⟨P, hP⟩ : ∃ y, 2 * q + 1 = y := ⟨_, rfl⟩
    have hv2 := hv
    rw [hP] at hv2 vg
    obtain ⟨v1, v2, v3, v4, v5, v6, v7, v8⟩ := vg
    have g : PQ P q := ⟨modB_iff.2 (by omega), modB_iff.2 (by omega), by omega, by omega⟩
    have hG : El P q 4 := ⟨by omega, v5, by rw [← powS_nn g.p (by omega)]; exact v8⟩
    have gp : ∀ x k, gpI P q x k = pwI P q x k := fun x k => by unfold gpI pwI; rw [g.p, g.q]; rfl
    have gt : ∀ a b, gtI P q a b = mulI P a b := fun a b => by unfold gtI; rw [g.q]; rfl
    have el : ∀ x, El P q x → elB P q 4 x = true := fun x h => by rw [el_eq (h.pos g) h.hi, hv2, powS_nn g.p (by omega), h.one]; rfl
    have go : ∀ a b, gtI P q a (powS P b (-1)) = mulI P a (invI P b) := fun a b => by rw [gt, powS_n1 P b g.p]
    obtain ⟨x, hx⟩ : ∃ y, pwI P q 4 i = y := ⟨_, rfl⟩
    obtain ⟨y, hy⟩ : ∃ z, pwI P q 4 j = z := ⟨_, rfl⟩
    obtain ⟨e1, e2, e3, e4, e5, e6, e7, e8, e9, e10, e11, e12, e13⟩ := expo_facts g hG i j k m hx hy
    obtain ⟨xk, hxk⟩ : ∃ z, pwI P q x k = z := ⟨_, rfl⟩
    obtain ⟨xm, hxm⟩ : ∃ z, pwI P q x m = z := ⟨_, rfl⟩
    obtain ⟨yk, hyk⟩ : ∃ z, pwI P q y k = z := ⟨_, rfl⟩
    obtain ⟨ym, hym⟩ : ∃ z, pwI P q y m = z := ⟨_, rfl⟩
    obtain ⟨pp, hpp⟩ : ∃ z, mulI P x y = z := ⟨_, rfl⟩
    obtain ⟨d, hd⟩ : ∃ z, mulI P x (invI P y) = z := ⟨_, rfl⟩
    obtain ⟨s0, hs0⟩ : ∃ z, addI q k 0 = z := ⟨_, rfl⟩
    obtain ⟨s1, hs1⟩ : ∃ z, addI q k m = z := ⟨_, rfl⟩
    obtain ⟨s2, hs2⟩ : ∃ z, mulI q k m = z := ⟨_, rfl⟩
    obtain ⟨s3, hs3⟩ : ∃ z, addI q i j = z := ⟨_, rfl⟩
    rw [hpp] at e3 e7 e11 e13
    rw [hd] at e4 e6
    rw [hxk] at e5 e8 e9 e10 e11 e12
    rw [hxm] at e9
    rw [hyk] at e11
    rw [hs0] at e8
    rw [hs1] at e9
    rw [hs2] at e10
    rw [hs3] at e13
    obtain ⟨t1, ht1⟩ : ∃ z, mulI P xk xm = z := ⟨_, rfl⟩
    obtain ⟨t2, ht2⟩ : ∃ z, pwI P q xk m = z := ⟨_, rfl⟩
    obtain ⟨t3, ht3⟩ : ∃ z, mulI P xk yk = z := ⟨_, rfl⟩
    obtain ⟨t4, ht4⟩ : ∃ z, mulI P xk ym = z := ⟨_, rfl⟩
    rw [ht1] at e9
    rw [ht2] at e10
    rw [ht3] at e11
    have hprod : prodL P q [x, y] [k, m] 2 = t4 := by
      show mulI P (mulI P (1 % P) (gpI P q x k)) (gpI P q y m) = t4
      rw [gp, gp, hxk, hym, e12, ht4]
    have a1 : ∀ W : World, Calls Tryd.prog 39 #[.agg #[.int .i64 P, .int .i64 q, .int .i64 4], .int .i64 4, .int .i64 i] W fun e w' => e = .returned (.int .i64 x) ∧ Below W.heap.size W w' := fun W => by have h := power_g_any P q 4 4 i W; unfold grpV gcells at h; rw [gp, hx] at h; exact h
    have a2 : ∀ W : World, Calls Tryd.prog 39 #[.agg #[.int .i64 P, .int .i64 q, .int .i64 4], .int .i64 4, .int .i64 j] W fun e w' => e = .returned (.int .i64 y) ∧ Below W.heap.size W w' := fun W => by have h := power_g_any P q 4 4 j W; unfold grpV gcells at h; rw [gp, hy] at h; exact h
    have a3 : ∀ W : World, Calls Tryd.prog 39 #[.agg #[.int .i64 P, .int .i64 q, .int .i64 4], .int .i64 x, .int .i64 k] W fun e w' => e = .returned (.int .i64 xk) ∧ Below W.heap.size W w' := fun W => by have h := power_g_any P q 4 x k W; unfold grpV gcells at h; rw [gp, hxk] at h; exact h
    have a4 : ∀ W : World, Calls Tryd.prog 39 #[.agg #[.int .i64 P, .int .i64 q, .int .i64 4], .int .i64 x, .int .i64 m] W fun e w' => e = .returned (.int .i64 xm) ∧ Below W.heap.size W w' := fun W => by have h := power_g_any P q 4 x m W; unfold grpV gcells at h; rw [gp, hxm] at h; exact h
    have a5 : ∀ W : World, Calls Tryd.prog 42 #[.agg #[.int .i64 P, .int .i64 q, .int .i64 4], .int .i64 x, .int .i64 y] W fun e w' => e = .returned (.int .i64 pp) ∧ Below W.heap.size W w' := fun W => by have h := times_any P q 4 x y W; unfold grpV gcells at h; rw [gt, hpp] at h; exact h
    have a6 : ∀ W : World, Calls Tryd.prog 43 #[.agg #[.int .i64 P, .int .i64 q, .int .i64 4], .int .i64 x, .int .i64 y] W fun e w' => e = .returned (.int .i64 d) ∧ Below W.heap.size W w' := fun W => by have h := over_any P q 4 x y W; unfold grpV gcells at h; rw [go, hd] at h; exact h
    have b1 : ∀ W : World, Tab W → Calls Tryd.prog 38 #[.agg #[.int .i64 P, .int .i64 q, .int .i64 4], .int .i64 x] W fun e w' => e = .returned (.bool true) ∧ Below W.heap.size W w' := fun W hTW => by have h := element_any P q 4 x W hTW; unfold grpV gcells at h; rw [el x e1] at h; exact h
    have b2 : ∀ W : World, Tab W → Calls Tryd.prog 38 #[.agg #[.int .i64 P, .int .i64 q, .int .i64 4], .int .i64 pp] W fun e w' => e = .returned (.bool true) ∧ Below W.heap.size W w' := fun W hTW => by have h := element_any P q 4 pp W hTW; unfold grpV gcells at h; rw [el pp e3] at h; exact h
    have b3 : ∀ W : World, Tab W → Calls Tryd.prog 38 #[.agg #[.int .i64 P, .int .i64 q, .int .i64 4], .int .i64 d] W fun e w' => e = .returned (.bool true) ∧ Below W.heap.size W w' := fun W hTW => by have h := element_any P q 4 d W hTW; unfold grpV gcells at h; rw [el d e4] at h; exact h
    have b4 : ∀ W : World, Tab W → Calls Tryd.prog 38 #[.agg #[.int .i64 P, .int .i64 q, .int .i64 4], .int .i64 xk] W fun e w' => e = .returned (.bool true) ∧ Below W.heap.size W w' := fun W hTW => by have h := element_any P q 4 xk W hTW; unfold grpV gcells at h; rw [el xk e5] at h; exact h
    have b5 : ∀ W : World, Calls Tryd.prog 42 #[.agg #[.int .i64 P, .int .i64 q, .int .i64 4], .int .i64 d, .int .i64 y] W fun e w' => e = .returned (.int .i64 x) ∧ Below W.heap.size W w' := fun W => by have h := times_any P q 4 d y W; unfold grpV gcells at h; rw [gt, e6] at h; exact h
    have b6 : ∀ W : World, Calls Tryd.prog 43 #[.agg #[.int .i64 P, .int .i64 q, .int .i64 4], .int .i64 pp, .int .i64 y] W fun e w' => e = .returned (.int .i64 x) ∧ Below W.heap.size W w' := fun W => by have h := over_any P q 4 pp y W; unfold grpV gcells at h; rw [go, e7] at h; exact h
    have b7 : ∀ W : World, Calls Tryd.prog 24 #[.int .i64 q, .int .i64 k, .int .i64 0] W fun e w' => e = .returned (.int .i64 s0) ∧ Below W.heap.size W w' := fun W => by have h := add_b q k 0 W; rw [hs0] at h; exact h
    have b8 : ∀ W : World, Calls Tryd.prog 39 #[.agg #[.int .i64 P, .int .i64 q, .int .i64 4], .int .i64 x, .int .i64 s0] W fun e w' => e = .returned (.int .i64 xk) ∧ Below W.heap.size W w' := fun W => by have h := power_g_any P q 4 x s0 W; unfold grpV gcells at h; rw [gp, e8] at h; exact h
    have f1 : ∀ W : World, Calls Tryd.prog 24 #[.int .i64 q, .int .i64 k, .int .i64 m] W fun e w' => e = .returned (.int .i64 s1) ∧ Below W.heap.size W w' := fun W => by have h := add_b q k m W; rw [hs1] at h; exact h
    have f2 : ∀ W : World, Calls Tryd.prog 39 #[.agg #[.int .i64 P, .int .i64 q, .int .i64 4], .int .i64 x, .int .i64 s1] W fun e w' => e = .returned (.int .i64 t1) ∧ Below W.heap.size W w' := fun W => by have h := power_g_any P q 4 x s1 W; unfold grpV gcells at h; rw [gp, e9] at h; exact h
    have f3 : ∀ W : World, Calls Tryd.prog 42 #[.agg #[.int .i64 P, .int .i64 q, .int .i64 4], .int .i64 xk, .int .i64 xm] W fun e w' => e = .returned (.int .i64 t1) ∧ Below W.heap.size W w' := fun W => by have h := times_any P q 4 xk xm W; unfold grpV gcells at h; rw [gt, ht1] at h; exact h
    have f4 : ∀ W : World, Calls Tryd.prog 39 #[.agg #[.int .i64 P, .int .i64 q, .int .i64 4], .int .i64 xk, .int .i64 m] W fun e w' => e = .returned (.int .i64 t2) ∧ Below W.heap.size W w' := fun W => by have h := power_g_any P q 4 xk m W; unfold grpV gcells at h; rw [gp, ht2] at h; exact h
    have f5 : ∀ W : World, Calls Tryd.prog 28 #[.int .i64 q, .int .i64 k, .int .i64 m] W fun e w' => e = .returned (.int .i64 s2) ∧ Below W.heap.size W w' := fun W => by have h := mul_b q k m W; rw [hs2] at h; exact h
    have f6 : ∀ W : World, Calls Tryd.prog 39 #[.agg #[.int .i64 P, .int .i64 q, .int .i64 4], .int .i64 x, .int .i64 s2] W fun e w' => e = .returned (.int .i64 t2) ∧ Below W.heap.size W w' := fun W => by have h := power_g_any P q 4 x s2 W; unfold grpV gcells at h; rw [gp, e10] at h; exact h
    have f7 : ∀ W : World, Calls Tryd.prog 39 #[.agg #[.int .i64 P, .int .i64 q, .int .i64 4], .int .i64 pp, .int .i64 k] W fun e w' => e = .returned (.int .i64 t3) ∧ Below W.heap.size W w' := fun W => by have h := power_g_any P q 4 pp k W; unfold grpV gcells at h; rw [gp, e11] at h; exact h
    have f8 : ∀ W : World, Calls Tryd.prog 39 #[.agg #[.int .i64 P, .int .i64 q, .int .i64 4], .int .i64 y, .int .i64 k] W fun e w' => e = .returned (.int .i64 yk) ∧ Below W.heap.size W w' := fun W => by have h := power_g_any P q 4 y k W; unfold grpV gcells at h; rw [gp, hyk] at h; exact h
    have f9 : ∀ W : World, Calls Tryd.prog 42 #[.agg #[.int .i64 P, .int .i64 q, .int .i64 4], .int .i64 xk, .int .i64 yk] W fun e w' => e = .returned (.int .i64 t3) ∧ Below W.heap.size W w' := fun W => by have h := times_any P q 4 xk yk W; unfold grpV gcells at h; rw [gt, ht3] at h; exact h
    have j1 : ∀ W : World, Calls Tryd.prog 39 #[.agg #[.int .i64 P, .int .i64 q, .int .i64 4], .int .i64 y, .int .i64 m] W fun e w' => e = .returned (.int .i64 ym) ∧ Below W.heap.size W w' := fun W => by have h := power_g_any P q 4 y m W; unfold grpV gcells at h; rw [gp, hym] at h; exact h
    have j2 : ∀ W : World, Calls Tryd.prog 42 #[.agg #[.int .i64 P, .int .i64 q, .int .i64 4], .int .i64 xk, .int .i64 ym] W fun e w' => e = .returned (.int .i64 t4) ∧ Below W.heap.size W w' := fun W => by have h := times_any P q 4 xk ym W; unfold grpV gcells at h; rw [gt, ht4] at h; exact h
    have j3 : ∀ W : World, Calls Tryd.prog 24 #[.int .i64 q, .int .i64 i, .int .i64 j] W fun e w' => e = .returned (.int .i64 s3) ∧ Below W.heap.size W w' := fun W => by have h := add_b q i j W; rw [hs3] at h; exact h
    have j4 : ∀ W : World, Calls Tryd.prog 39 #[.agg #[.int .i64 P, .int .i64 q, .int .i64 4], .int .i64 4, .int .i64 s3] W fun e w' => e = .returned (.int .i64 pp) ∧ Below W.heap.size W w' := fun W => by have h := power_g_any P q 4 4 s3 W; unfold grpV gcells at h; rw [gp, e13] at h; exact h
    have HPR : ∀ (g1 o1 c1 g2 o2 c2 : Nat) (W : World), (∀ j, j < 2 → W.cell? ⟨g1, o1 + j, none⟩ = some (.int .i64 ([x, y].getD j 0))) → (∀ j, j < 2 → W.cell? ⟨g2, o2 + j, none⟩ = some (.int .i64 ([k, m].getD j 0))) → g1 < W.heap.size → g2 < W.heap.size → Calls Tryd.prog 44 #[.agg #[.int .i64 P, .int .i64 q, .int .i64 4], .slice (some ⟨g1, o1, none⟩) 2 c1, .slice (some ⟨g2, o2, none⟩) 2 c2] W fun e w' => e = .returned (.tuple #[.int .i64 t4, .bool true]) ∧ Below W.heap.size W w' := fun g1 o1 c1 g2 o2 c2 W h1 h2 l1 l2 => by have h := gprod_any P q 4 g1 o1 c1 g2 o2 c2 2 [x, y] [k, m] W g.p g.q rfl rfl (by omega) h1 h2 l1 l2; unfold grpV gcells at h; rw [hprod] at h; exact h
    have Ca1 := mkHid a1
    have Ca2 := mkHid a2
    have Ca3 := mkHid a3
    have Ca4 := mkHid a4
    have Ca5 := mkHid a5
    have Ca6 := mkHid a6
    have Cb1 := mkHid b1
    have Cb2 := mkHid b2
    have Cb3 := mkHid b3
    have Cb4 := mkHid b4
    have Cb5 := mkHid b5
    have Cb6 := mkHid b6
    have Cb7 := mkHid b7
    have Cb8 := mkHid b8
    have Cf1 := mkHid f1
    have Cf2 := mkHid f2
    have Cf3 := mkHid f3
    have Cf4 := mkHid f4
    have Cf5 := mkHid f5
    have Cf6 := mkHid f6
    have Cf7 := mkHid f7
    have Cf8 := mkHid f8
    have Cf9 := mkHid f9
    have Cj1 := mkHid j1
    have Cj2 := mkHid j2
    have Cj3 := mkHid j3
    have Cj4 := mkHid j4
    clear a1 a2 a3 a4 a5 a6 b1 b2 b3 b4 b5 b6 b7 b8 f1 f2 f3 f4 f5 f6 f7 f8 f9 j1 j2 j3 j4
    have HPR2 := mkHid HPR
    have HV := mkHid hv
    have HP := mkHid hP
    clear HPR hv hv2 hP v1 v2 v3 v4 v5 v6 v7 v8 g hG gp gt el go hx hy e1 e2 e3 e4 e5 e6 e7 e8 e9 e10 e11 e12 e13 hxk hxm hyk hym hpp hd hs0 hs1 hs2 hs3 ht1 ht2 ht3 ht4 hprod
    go_enter Tryd.func10, Tryd.ntmps10
    have B0 := mkHid (Below.refl w.heap.size w)
    go_wp2_with fail
    refine (sane_any _ (HT.out.step B0.out)).mono ?_
    rintro e w1 ⟨rfl, b1⟩
    have B1 := mkHid (B0.out.trans (b1.mono B0.out.size))
    clear b1 B0
    go_wp2_with fail
    refine (make_yes q _ (HT.out.step B1.out) HV.out).mono ?_
    rintro e w2 ⟨rfl, b2⟩
    have B2 := mkHid (B1.out.trans (b2.mono B1.out.size))
    clear b2 B1
    rw [HP.out]
    have ha := mkHid B2.out.size
    simp only [grpV, gcells]
    go_wp2_with (refine wpList_store_abs rfl 38 (.tmp 12) (.tmp 26) rfl w2.heap.size #[.int .i64 P, .int .i64 q, .int .i64 4] ?s1 ?s2 38 _ (heap_alloc_last _ _) (ginf P q 4) rfl (gone P q 4) ?_; (case s1 => rfl); (case s2 => rfl); intro w3 s3 u3; have G3 : Hid (HasG w3 w2.heap.size P q 4) := mkHid s3; have B3 := mkHid (u3.below (B2.out.alloc B2.out.size _) ha.out); clear s3 u3 B2; have hcell := G3.out.cells; obtain ⟨c0, c1, c2⟩ := hcell)
    generalize w2.heap.size = A at *
    refine (Ca1.out _).mono ?_
    rintro e w4 ⟨rfl, b4⟩
    have B4 := mkHid (B3.out.trans (b4.mono B3.out.size))
    have G4 := mkHid (G3.out.below b4)
    clear b4 B3 G3 c0 c1 c2
    obtain ⟨c0, c1, c2⟩ := G4.out.cells
    go_wp2_with fail
    refine (Ca2.out _).mono ?_
    rintro e w5 ⟨rfl, b5⟩
    have B5 := mkHid (B4.out.trans (b5.mono B4.out.size))
    have G5 := mkHid (G4.out.below b5)
    clear b5 B4 G4 c0 c1 c2
    obtain ⟨c0, c1, c2⟩ := G5.out.cells
    go_wp2_with fail
    refine (Ca3.out _).mono ?_
    rintro e w6 ⟨rfl, b6⟩
    have B6 := mkHid (B5.out.trans (b6.mono B5.out.size))
    have G6 := mkHid (G5.out.below b6)
    clear b6 B5 G5 c0 c1 c2
    obtain ⟨c0, c1, c2⟩ := G6.out.cells
    go_wp2_with fail
    refine (Ca4.out _).mono ?_
    rintro e w7 ⟨rfl, b7⟩
    have B7 := mkHid (B6.out.trans (b7.mono B6.out.size))
    have G7 := mkHid (G6.out.below b7)
    clear b7 B6 G6 c0 c1 c2
    obtain ⟨c0, c1, c2⟩ := G7.out.cells
    go_wp2_with fail
    refine (Ca5.out _).mono ?_
    rintro e w8 ⟨rfl, b8⟩
    have B8 := mkHid (B7.out.trans (b8.mono B7.out.size))
    have G8 := mkHid (G7.out.below b8)
    clear b8 B7 G7 c0 c1 c2
    obtain ⟨c0, c1, c2⟩ := G8.out.cells
    go_wp2_with fail
    refine (Ca6.out _).mono ?_
    rintro e w9 ⟨rfl, b9⟩
    have B9 := mkHid (B8.out.trans (b9.mono B8.out.size))
    have G9 := mkHid (G8.out.below b9)
    clear b9 B8 G8 c0 c1 c2
    obtain ⟨c0, c1, c2⟩ := G9.out.cells
    go_upto_region 11 with (fail)
    clear c0 c1 c2
    obtain ⟨WW, hWW⟩ : ∃ y, y = w9 := ⟨_, rfl⟩
    rw [← hWW] at B9 G9
    rw [← hWW]
    clear hWW
    obtain ⟨u0, u1, u2⟩ := G9.out.cells
    have m0 := cell_regrown u0
    have m1 := cell_regrown u1
    have m2 := cell_regrown u2
    clear u0 u1 u2
    have TW := HT.out.step B9.out
    have kb1 := regr WW (fun w h => Cb1.out w (TW.step h))
    have kb2 := regr WW (fun w h => Cb2.out w (TW.step h))
    have kb3 := regr WW (fun w h => Cb3.out w (TW.step h))
    have kb4 := regr WW (fun w h => Cb4.out w (TW.step h))
    have kb5 := regr WW (fun w _ => Cb5.out w)
    have kb6 := regr WW (fun w _ => Cb6.out w)
    have kb7 := regr WW (fun w _ => Cb7.out w)
    have kb8 := regr WW (fun w _ => Cb8.out w)
    clear TW
    refine wp_region_quiet_below (by kernel_rfl) (by kernel_rfl) ?_
    repeat (quiet_step (with_reducible (first | exact kb1 _ _ | exact kb2 _ _ | exact kb3 _ _ | exact kb4 _ _ | exact kb5 _ _ | exact kb6 _ _ | exact kb7 _ _ | exact kb8 _ _)))
    refine wpQuiet_nil ?_
    intro _ hw'
    obtain ⟨⟨dq, osq⟩, hw''⟩ := hw'
    subst hw''
    have hbb := below_regrown WW dq osq
    have B10 := mkHid (B9.out.trans (hbb.mono B9.out.size))
    have G10 := mkHid (G9.out.below hbb)
    clear hbb m0 m1 m2 kb1 kb2 kb3 kb4 kb5 kb6 kb7 kb8 B9 G9
    generalize grow (redrawn WW dq) osq = w10 at *
    obtain ⟨c0, c1, c2⟩ := G10.out.cells
    go_upto_region 13 with (fail)
    clear c0 c1 c2
    obtain ⟨WW, hWW⟩ : ∃ y, y = w10 := ⟨_, rfl⟩
    rw [← hWW] at B10 G10
    rw [← hWW]
    clear hWW
    obtain ⟨u0, u1, u2⟩ := G10.out.cells
    have m0 := cell_regrown u0
    have m1 := cell_regrown u1
    have m2 := cell_regrown u2
    clear u0 u1 u2
    have kf1 := regr WW (fun w _ => Cf1.out w)
    have kf2 := regr WW (fun w _ => Cf2.out w)
    have kf3 := regr WW (fun w _ => Cf3.out w)
    have kf4 := regr WW (fun w _ => Cf4.out w)
    have kf5 := regr WW (fun w _ => Cf5.out w)
    have kf6 := regr WW (fun w _ => Cf6.out w)
    have kf7 := regr WW (fun w _ => Cf7.out w)
    have kf8 := regr WW (fun w _ => Cf8.out w)
    have kf9 := regr WW (fun w _ => Cf9.out w)
    refine wp_region_quiet_below (by kernel_rfl) (by kernel_rfl) ?_
    repeat (quiet_step (with_reducible (first | exact kf1 _ _ | exact kf2 _ _ | exact kf3 _ _ | exact kf4 _ _ | exact kf5 _ _ | exact kf6 _ _ | exact kf7 _ _ | exact kf8 _ _ | exact kf9 _ _)))
    refine wpQuiet_nil ?_
    intro _ hw'
    obtain ⟨⟨dq, osq⟩, hw''⟩ := hw'
    subst hw''
    have hbb := below_regrown WW dq osq
    have B11 := mkHid (B10.out.trans (hbb.mono B10.out.size))
    have G11 := mkHid (G10.out.below hbb)
    clear hbb m0 m1 m2 kf1 kf2 kf3 kf4 kf5 kf6 kf7 kf8 kf9 B10 G10
    generalize grow (redrawn WW dq) osq = w11 at *
    obtain ⟨c0, c1, c2⟩ := G11.out.cells
    go_wp2_with fail
    refine (HPR2.out _ 0 _ _ 0 _ _ ?zz1 ?zz2 ?zz3 ?zz4).mono ?_
    case zz1 => (intro jj hjj; rcases (show jj = 0 ∨ jj = 1 by omega) with rfl | rfl <;> simp)
    case zz2 => (intro jj hjj; rcases (show jj = 0 ∨ jj = 1 by omega) with rfl | rfl <;> simp)
    case zz3 => (simp <;> omega)
    case zz4 => (simp <;> omega)
    rintro e w12 ⟨rfl, b12⟩
    have B12 := mkHid (((B11.out.alloc B11.out.size _).alloc (by have := B11.out.size; simp; omega) _).trans (b12.mono (by have := B11.out.size; simp; omega)))
    have G12 := mkHid (((G11.out.alloc _).alloc _).below b12)
    clear b12 B11 G11 c0 c1 c2
    obtain ⟨c0, c1, c2⟩ := G12.out.cells
    go_upto_region 16 with (fail)
    clear c0 c1 c2
    obtain ⟨WW, hWW⟩ : ∃ y, y = w12 := ⟨_, rfl⟩
    rw [← hWW] at B12 G12
    rw [← hWW]
    clear hWW
    obtain ⟨u0, u1, u2⟩ := G12.out.cells
    have m0 := cell_regrown u0
    have m1 := cell_regrown u1
    have m2 := cell_regrown u2
    clear u0 u1 u2
    have kj1 := regr WW (fun w _ => Cj1.out w)
    have kj2 := regr WW (fun w _ => Cj2.out w)
    have kj3 := regr WW (fun w _ => Cj3.out w)
    have kj4 := regr WW (fun w _ => Cj4.out w)
    refine wp_region_quiet_below (by kernel_rfl) (by kernel_rfl) ?_
    repeat (quiet_step (with_reducible (first | exact kj1 _ _ | exact kj2 _ _ | exact kj3 _ _ | exact kj4 _ _)))
    refine wpQuiet_nil ?_
    intro _ hw'
    obtain ⟨⟨dq, osq⟩, hw''⟩ := hw'
    subst hw''
    have hbb := below_regrown WW dq osq
    have B13 := mkHid (B12.out.trans (hbb.mono B12.out.size))
    have G13 := mkHid (G12.out.below hbb)
    clear hbb m0 m1 m2 kj1 kj2 kj3 kj4 B12 G12
    generalize grow (redrawn WW dq) osq = w13 at *
    obtain ⟨c0, c1, c2⟩ := G13.out.cells
    go_wp2
    go_ret
    exact ⟨rfl, B13.out⟩
end Go.Proofs.YtbllanmhbfnagaaDoor
