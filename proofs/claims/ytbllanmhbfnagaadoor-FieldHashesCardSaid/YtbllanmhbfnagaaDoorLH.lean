/- FieldHashes: what the property's function computes (walk). -/
import Derived.Test.YtbllanmhbfnagaaDoorRG
import Derived.Test.YtbllanmhbfnagaaDoorLB
set_option linter.unusedVariables false
set_option linter.unusedSimpArgs false
namespace Go.Proofs.YtbllanmhbfnagaaDoor
open Go.RowKit Go.Sort
theorem numL_no (n : Int) (h : modB n = false) (l : List Nat) : numL n l = 0 := by
  unfold numL
  rcases List.eq_nil_or_concat l with rfl | ⟨m, x, rfl⟩
  · simp
  · rw [List.concat_eq_append, List.foldl_append]
    show addI n _ _ = 0
    unfold addI
    rw [h]
    rfl
theorem numI_eq (n : Int) (l : List Nat) : numI n l = numL n l := by
  unfold numI
  split
  · rfl
  · rename_i h
    rw [numL_no n (by simpa using h)]
set_option maxHeartbeats 4000000 in
set_option maxRecDepth 100000 in
theorem hashes_walk (s : ByteArray) (n : Int) (w : World) (hT : Tab w) :
    Calls Tryd.prog 4 #[.string s, .int .i64 n] w fun e w' => e = .returned (.bool true) ∧ Below w.heap.size w w' := by
  have HT := mkHid hT
  clear hT
  have B0 := mkHid (Below.refl w.heap.size w)
  by_cases hlong : 300 < s.size
  · have h1 : (300 : Int) < (s.size : Int) := by omega
    go_enter Tryd.func4, Tryd.ntmps4
    go_wp2_with fail
    refine (sane_any _ (HT.out.step B0.out)).mono ?_
    rintro e w1 ⟨rfl, b1⟩
    have B1 := mkHid (B0.out.trans (b1.mono B0.out.size))
    clear b1 B0
    go_wp2
    go_ret
    exact ⟨rfl, B1.out⟩
  have h1 : ¬ (300 : Int) < (s.size : Int) := by omega
  have hs : s.size ≤ 1099511627776 := by omega
  have HS := mkHid hs
  have hl32 := mkHid (shaF_len (bytesN s))
  have hlt := mkHid (shaF_lt (bytesN s))
  obtain ⟨l, hl⟩ : ∃ l, shaF (bytesN s) = l := ⟨_, rfl⟩
  have HL := mkHid hl
  rw [hl] at hl32 hlt
  clear hl hlong hs
  have hr : Hid (numI n l = numL n (l.take 32)) := mkHid (by rw [numI_eq, List.take_of_length_le (by rw [hl32.out]; exact Nat.le_refl _)])
  have hsz : Hid ((strN l).size = 32) := mkHid (by rw [strN_size, hl32.out])
  have hix := mkHid (fun j hj W => str_at l j hj hlt.out W)
  have cS : ∀ W : World, Calls Tryd.prog 32 #[.string s] W fun e w' => e = .returned (.string (strN l)) ∧ Below W.heap.size W w' := fun W => by have h := sha_any s W HS.out; rw [HL.out] at h; exact h
  have cR : ∀ W : World, Calls Tryd.prog 33 #[.string s] W fun e w' => e = .returned (.string (strN l)) ∧ Below W.heap.size W w' := fun W => by have h := rsha_any s W HS.out; rw [HL.out] at h; exact h
  have cN : ∀ W : World, Calls Tryd.prog 34 #[.string s, .int .i64 n] W fun e w' => e = .returned (.int .i64 (numI n l)) ∧ Below W.heap.size W w' := fun W => by have h := number_any s n W HS.out; rw [HL.out] at h; exact h
  have cM : ∀ W : World, Calls Tryd.prog 35 #[.string s, .int .i64 n] W fun e w' => e = .returned (.int .i64 (numI n l)) ∧ Below W.heap.size W w' := fun W => by have h := rnumber_any s n W HS.out; rw [HL.out] at h; exact h
  have CS := mkHid cS
  have CR := mkHid cR
  have CN := mkHid cN
  have CM := mkHid cM
  clear cS cR cN cM
  generalize strN l = t at *
  generalize numI n l = v at *
  go_enter Tryd.func4, Tryd.ntmps4
  go_wp2_with fail
  refine (sane_any _ (HT.out.step B0.out)).mono ?_
  rintro e w1 ⟨rfl, b1⟩
  have B1 := mkHid (B0.out.trans (b1.mono B0.out.size))
  clear b1 B0
  go_wp2_with fail
  refine (CS.out _).mono ?_
  rintro e w2 ⟨rfl, b2⟩
  have B2 := mkHid (B1.out.trans (b2.mono B1.out.size))
  clear b2 B1
  go_wp2_with fail
  refine (CR.out _).mono ?_
  rintro e w3 ⟨rfl, b3⟩
  have B3 := mkHid (B2.out.trans (b3.mono B2.out.size))
  clear b3 B2
  go_wp2_with fail
  refine (CN.out _).mono ?_
  rintro e w4 ⟨rfl, b4⟩
  have B4 := mkHid (B3.out.trans (b4.mono B3.out.size))
  clear b4 B3
  go_wp2_with fail
  refine (CM.out _).mono ?_
  rintro e w5 ⟨rfl, b5⟩
  have B5 := mkHid (B4.out.trans (b5.mono B4.out.size))
  clear b5 B4
  have hz := hsz.out
  go_wp2_with fail
  go_loopw [7, 8] (fun c d wr => ∃ (j : Nat), c = .int .i64 (numL n (l.take j)) ∧ d = .int .i64 j ∧ j ≤ 32 ∧ Hid (Below w.heap.size w wr)) (fun _ d _ => (32 - intOf d).toNat)
  case atStart => exact ⟨0, rfl, rfl, by omega, B5⟩
  case round =>
    clear B5
    obtain ⟨j, rfl, rfl, hj, hb⟩ := hrel
    by_cases hlt2 : j < 32
    · have hst := mkHid (numL_take n l j (by rw [hl32.out]; exact hlt2))
      have hxl : l.getD j 0 < 256 := by
        rw [List.getD, List.getElem?_eq_getElem (by rw [hl32.out]; exact hlt2)]
        exact hlt.out _ (List.getElem_mem _)
      have hnb := numL_bd n (l.take j)
      have hx := hix.out j (by rw [hl32.out]; exact hlt2)
      generalize l.getD j 0 = x at *
      generalize numL n (l.take j) = o at *
      have hjj : (j : Int) < 32 := by omega
      have cx : IntKind.i64.wrap (x : Int) = (x : Int) := IntWalk.i64_in _ (by omega)
      have q1 : ∀ W : World, Calls Tryd.prog 28 #[.int .i64 n, .int .i64 o, .int .i64 256] W fun e' w' => e' = .returned (.int .i64 (mulI n o 256)) ∧ Below W.heap.size W w' := fun W => mul_b n o 256 W
      have q2 : ∀ W : World, Calls Tryd.prog 24 #[.int .i64 n, .int .i64 (mulI n o 256), .int .i64 (x : Int)] W fun e' w' => e' = .returned (.int .i64 (addI n (mulI n o 256) x)) ∧ Below W.heap.size W w' := fun W => add_b n (mulI n o 256) x W
      rw [← hst.out] at q2
      generalize mulI n o 256 = o2 at *
      generalize hq : numL n (l.take (j + 1)) = o3 at *
      have HQ := mkHid hq
      have Q1 := mkHid q1
      have Q2 := mkHid q2
      clear q1 q2 hst hq
      go_upto_region 11 with (fail)
      have k1 := regr wr (fun W _ => Q1.out W)
      have k2 := regr wr (fun W _ => Q2.out W)
      refine wp_region_quiet_below (by kernel_rfl) (by kernel_rfl) ?_
      repeat (quiet_step (with_reducible (first | exact k1 _ _ | exact k2 _ _)))
      refine wpQuiet_nil ?_
      intro _ hw'
      obtain ⟨⟨dq, osq⟩, hw''⟩ := hw'
      subst hw''
      have B6 := mkHid (hb.out.trans ((below_regrown wr dq osq).mono hb.out.size))
      clear k1 k2 hx
      generalize grow (redrawn wr dq) osq = wa at *
      go_wp2_with fail
      go_roundw
      case rel => exact ⟨j + 1, by rw [HQ.out], by go_num, by omega, B6⟩
      case measure => simp only [intOf]; omega
    · obtain rfl : j = 32 := by omega
      rw [← hr.out]
      go_wp2_with fail
      refine (CN.out _).mono ?_
      rintro e w6 ⟨rfl, b6⟩
      have B6 := mkHid (hb.out.trans (b6.mono hb.out.size))
      go_wp2
      go_ret
      exact ⟨rfl, B6.out⟩
end Go.Proofs.YtbllanmhbfnagaaDoor
