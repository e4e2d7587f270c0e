/- The number of a string by the reference (walk). -/
import Derived.Test.YtbllanmhbfnagaaDoorRF
import Derived.Test.YtbllanmhbfnagaaDoorSE
import Derived.Test.YtbllanmhbfnagaaDoorWF
import Derived.Test.YtbllanmhbfnagaaDoorSJ
set_option linter.unusedVariables false
set_option linter.unusedSimpArgs false
namespace Go.Proofs.YtbllanmhbfnagaaDoor
open Go.RowKit Go.Sort
theorem rmul_bb (n a b : Int) (w : World) :
    Calls Tryd.prog 29 #[.int .i64 n, .int .i64 a, .int .i64 b] w fun e w' => e = .returned (.int .i64 (mulI n a b)) ∧ Below w.heap.size w w' :=
  (rmul_any n a b w).mono fun _ _ ⟨h1, h2⟩ => ⟨h1, h2 ▸ Below.refl _ _⟩
theorem radd_bb (n a b : Int) (w : World) :
    Calls Tryd.prog 25 #[.int .i64 n, .int .i64 a, .int .i64 b] w fun e w' => e = .returned (.int .i64 (addI n a b)) ∧ Below w.heap.size w w' :=
  (radd_any n a b w).mono fun _ _ ⟨h1, h2⟩ => ⟨h1, h2 ▸ Below.refl _ _⟩
set_option maxHeartbeats 2000000 in
set_option maxRecDepth 100000 in
theorem rnumber_any (s : ByteArray) (n : Int) (w : World) (hs : s.size ≤ 1099511627776) :
    Calls Tryd.prog 35 #[.string s, .int .i64 n] w fun e w' => e = .returned (.int .i64 (numI n (shaF (bytesN s)))) ∧ Below w.heap.size w w' := by
  have hl32 := mkHid (shaF_len (bytesN s))
  have hlt := mkHid (shaF_lt (bytesN s))
  obtain ⟨l, hl⟩ : ∃ l, shaF (bytesN s) = l := ⟨_, rfl⟩
  have HL := mkHid hl
  rw [hl] at hl32 hlt ⊢
  clear hl
  cases hm : modB n with
  | false =>
    have hr : Hid (numI n l = 0) := mkHid (by unfold numI; rw [hm]; rfl)
    have V := mkHid hm
    clear hm
    go_enter Tryd.func35, Tryd.ntmps35
    go_wp2_with fail
    refine (rvalid_no n _ V.out).mono ?_
    rintro e w' ⟨rfl, rfl⟩
    go_wp2
    go_ret
    exact ⟨by rw [hr.out]; rfl, Below.refl _ _⟩
  | true =>
    have hr : Hid (numI n l = numL n (l.take 32)) := mkHid (by unfold numI; rw [hm, List.take_of_length_le (by rw [hl32.out]; exact Nat.le_refl _)]; rfl)
    have V := mkHid hm
    clear hm
    go_enter Tryd.func35, Tryd.ntmps35
    go_wp2_with fail
    refine (rvalid_yes n _ V.out).mono ?_
    rintro e w' ⟨rfl, rfl⟩
    go_wp2_with fail
    refine (rsha_any s _ hs).mono ?_
    rintro e w1 ⟨rfl, b1⟩
    rw [HL.out]
    have B1 := mkHid b1
    have hsz : Hid ((strN l).size = 32) := mkHid (by rw [strN_size, hl32.out])
    have hix := mkHid (fun j hj W => str_at l j hj hlt.out W)
    clear b1
    generalize strN l = t at *
    go_wp2_with fail
    go_loopw [6, 7] (fun c d wr => ∃ (j : Nat), c = .int .i64 (numL n (l.take j)) ∧ d = .int .i64 j ∧ j ≤ 32 ∧ Hid (Below w.heap.size w wr)) (fun _ d _ => (32 - intOf d).toNat)
    case atStart => exact ⟨0, rfl, rfl, by omega, B1⟩
    case round =>
      clear B1
      obtain ⟨j, rfl, rfl, hj, hb⟩ := hrel
      have hz := hsz.out
      by_cases hlt2 : j < 32
      · have hst := mkHid (numL_take n l j (by rw [hl32.out]; exact hlt2))
        have hxl : l.getD j 0 < 256 := by
          rw [List.getD, List.getElem?_eq_getElem (by rw [hl32.out]; exact hlt2)]
          exact hlt.out _ (List.getElem_mem _)
        have hnb := numL_bd n (l.take j)
        have hx := hix.out j (by rw [hl32.out]; exact hlt2)
        generalize l.getD j 0 = x at *
        generalize numL n (l.take j) = o at *
        have hjj : (j : Int) < 32 := by omega
        have cx : IntKind.i64.wrap (x : Int) = (x : Int) := IntWalk.i64_in _ (by omega)
        have q1 : ∀ W : World, Calls Tryd.prog 29 #[.int .i64 n, .int .i64 o, .int .i64 256] W fun e' w' => e' = .returned (.int .i64 (mulI n o 256)) ∧ Below W.heap.size W w' := fun W => rmul_bb n o 256 W
        have q2 : ∀ W : World, Calls Tryd.prog 25 #[.int .i64 n, .int .i64 (mulI n o 256), .int .i64 (x : Int)] W fun e' w' => e' = .returned (.int .i64 (addI n (mulI n o 256) x)) ∧ Below W.heap.size W w' := fun W => radd_bb n (mulI n o 256) x W
        rw [← hst.out] at q2
        generalize mulI n o 256 = o2 at *
        generalize hq : numL n (l.take (j + 1)) = o3 at *
        have HQ := mkHid hq
        have Q1 := mkHid q1
        have Q2 := mkHid q2
        clear q1 q2 hst hq
        go_upto_region 8 with (fail)
        have k1 := regr wr (fun W _ => Q1.out W)
        have k2 := regr wr (fun W _ => Q2.out W)
        refine wp_region_quiet_below (by kernel_rfl) (by kernel_rfl) ?_
        repeat (quiet_step (with_reducible (first | exact k1 _ _ | exact k2 _ _)))
        refine wpQuiet_nil ?_
        intro _ hw'
        obtain ⟨⟨dq, osq⟩, hw''⟩ := hw'
        subst hw''
        have B4 := mkHid (hb.out.trans ((below_regrown wr dq osq).mono hb.out.size))
        clear k1 k2 hx
        generalize grow (redrawn wr dq) osq = wa at *
        go_wp2_with fail
        go_roundw
        case rel => exact ⟨j + 1, by rw [HQ.out], by go_num, by omega, B4⟩
        case measure => simp only [intOf]; omega
      · obtain rfl : j = 32 := by omega
        rw [← hr.out]
        go_wp2
        go_ret
        exact ⟨rfl, hb.out⟩
end Go.Proofs.YtbllanmhbfnagaaDoor
