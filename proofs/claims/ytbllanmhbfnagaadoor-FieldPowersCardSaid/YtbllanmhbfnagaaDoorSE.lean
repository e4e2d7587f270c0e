/- The number of a string (walk). -/
import Derived.Test.YtbllanmhbfnagaaDoorSD
import Derived.Test.YtbllanmhbfnagaaDoorWD
import Derived.Test.YtbllanmhbfnagaaDoorF7
set_option linter.unusedVariables false
set_option linter.unusedSimpArgs false
namespace Go.Proofs.YtbllanmhbfnagaaDoor
open Go.RowKit
theorem bytesN_strN (l : List Nat) (h : ∀ y ∈ l, y < 256) : bytesN (strN l) = l := by
  simp only [bytesN, strN, List.map_map]
  conv => rhs; rw [← List.map_id l]
  apply List.map_congr_left
  intro x hx
  have := h x hx
  simp [Nat.mod_eq_of_lt this]
theorem numL_take (n : Int) (l : List Nat) (j : Nat) (h : j < l.length) : numL n (l.take (j + 1)) = addI n (mulI n (numL n (l.take j)) 256) (l.getD j 0 : Nat) := by
  unfold numL
  rw [List.take_add_one, List.getElem?_eq_getElem h, Option.toList_some, List.foldl_append, List.getD, List.getElem?_eq_getElem h]
  rfl
theorem numL_bd (n : Int) (l : List Nat) : 0 ≤ numL n l ∧ numL n l < 2305843009213693952 := by
  unfold numL
  rcases List.eq_nil_or_concat l with rfl | ⟨m, x, rfl⟩
  · simp
  · rw [List.concat_eq_append, List.foldl_append]
    exact addI_bd _ _ _
set_option maxHeartbeats 2000000 in
set_option maxRecDepth 100000 in
theorem number_any (s : ByteArray) (n : Int) (w : World) (hs : s.size ≤ 1099511627776) :
    Calls Tryd.prog 34 #[.string s, .int .i64 n] w fun e w' => e = .returned (.int .i64 (numI n (shaF (bytesN s)))) ∧ Below w.heap.size w w' := by
  have hl32 := mkHid (shaF_len (bytesN s))
  have hlt := mkHid (shaF_lt (bytesN s))
  obtain ⟨l, hl⟩ : ∃ l, shaF (bytesN s) = l := ⟨_, rfl⟩
  have HL := mkHid hl
  rw [hl] at hl32 hlt ⊢
  clear hl
  cases hm : modB n with
  | false =>
    have hr : Hid (numI n l = 0) := mkHid (by unfold numI; rw [hm]; rfl)
    have V := mkHid hm
    clear hm
    go_enter Tryd.func34, Tryd.ntmps34
    go_wp2_with fail
    refine (valid_no n _ V.out).mono ?_
    rintro e w' ⟨rfl, rfl⟩
    go_wp2
    go_ret
    exact ⟨by rw [hr.out]; rfl, Below.refl _ _⟩
  | true =>
    have hr : Hid (numI n l = numL n (l.take 32)) := mkHid (by unfold numI; rw [hm, List.take_of_length_le (by rw [hl32.out]; exact Nat.le_refl _)]; rfl)
    have V := mkHid hm
    clear hm
    go_enter Tryd.func34, Tryd.ntmps34
    go_wp2_with fail
    refine (valid_yes n _ V.out).mono ?_
    rintro e w' ⟨rfl, rfl⟩
    go_wp2_with fail
    refine (sha_any s _ hs).mono ?_
    rintro e w1 ⟨rfl, b1⟩
    rw [HL.out]
    have B1 := mkHid b1
    have hsz : Hid ((strN l).size = 32) := mkHid (by rw [strN_size, hl32.out])
    have hbn := mkHid (bytesN_strN l hlt.out)
    clear b1
    generalize strN l = t at *
    go_wp2_with (refine wpList_bytes_of _ rfl 9 83 (.tmp 12) rfl 5 .string Tryd.underlying9 Tryd.underlying83 Tryd.underlying5 t ?cs ?cm ?_; (case cs => rfl); (case cm => have := hsz.out; simp only [maxLen]; omega); intro g0 c0 w2 o2 b2; rw [hbn.out] at o2; have O2 := mkHid o2; have B2 := mkHid (B1.out.trans (b2.mono B1.out.size)); have e0 := hsz.out; rw [e0]; clear o2 b2 e0)
    go_loopw [5, 15] (fun c d wr => ∃ (j : Nat), c = .int .i64 (numL n (l.take j)) ∧ d = .int .i64 j ∧ j ≤ 32 ∧ Hid (OwnAt wr w1.heap.size g0 0 c0 (bv l)) ∧ Hid (Below w.heap.size w wr)) (fun _ d _ => (32 - intOf d).toNat)
    case atStart => exact ⟨0, rfl, rfl, by omega, O2, B2⟩
    case round =>
      clear O2 B2 B1
      obtain ⟨j, rfl, rfl, hj, ho, hb⟩ := hrel
      by_cases hlt2 : j < 32
      · have hst := mkHid (numL_take n l j (by rw [hl32.out]; exact hlt2))
        have hc : wr.cell? ⟨g0, j, none⟩ = some (.int .u8 (l.getD j 0 : Nat)) := by
          have := ho.out.cells j _ (bv_at l j (by rw [hl32.out]; exact hlt2))
          rwa [Nat.zero_add] at this
        have hxl : l.getD j 0 < 256 := by
          rw [List.getD, List.getElem?_eq_getElem (by rw [hl32.out]; exact hlt2)]
          exact hlt.out _ (List.getElem_mem _)
        have hnb := numL_bd n (l.take j)
        generalize l.getD j 0 = x at *
        generalize numL n (l.take j) = o at *
        have hjj : (j : Int) < 32 := by omega
        go_wp2_with fail
        refine (mul_any n o 256 _).mono ?_
        rintro e w' ⟨rfl, m, rfl⟩
        have hmb := mulI_bd n o 256
        go_wp2_with fail
        refine (add_any n (mulI n o 256) x _).mono ?_
        rintro e w' ⟨rfl, rfl⟩
        go_wp2_with fail
        go_roundw
        case rel => exact ⟨j + 1, by rw [hst.out], by go_num, by omega, mkHid (ho.out.of_block rfl (Nat.le_refl _)), mkHid (below_drewN hb.out m)⟩
        case measure => simp only [intOf]; omega
      · obtain rfl : j = 32 := by omega
        rw [← hr.out]
        go_wp2
        go_ret
        exact ⟨rfl, hb.out⟩
end Go.Proofs.YtbllanmhbfnagaaDoor
