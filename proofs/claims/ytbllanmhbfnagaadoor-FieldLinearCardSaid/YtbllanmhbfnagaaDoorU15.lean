/- The number of a string (walk). Hexadecimal digits (walk). -/
import Derived.Test.YtbllanmhbfnagaaDoorU14
import Derived.Test.YtbllanmhbfnagaaDoorU5
import Derived.Test.YtbllanmhbfnagaaDoorU2
set_option linter.unusedVariables false
set_option linter.unusedSimpArgs false
namespace Go.Proofs.YtbllanmhbfnagaaDoor
open Go.RowKit
theorem bytesN_strN (l : List Nat) (h : ∀ y ∈ l, y < 256) : bytesN (strN l) = l := by
  simp only [bytesN, strN, List.map_map]
  conv => rhs; rw [← List.map_id l]
  apply List.map_congr_left
  intro x hx
  have := h x hx
  simp [Nat.mod_eq_of_lt this]
theorem numL_take (n : Int) (l : List Nat) (j : Nat) (h : j < l.length) : numL n (l.take (j + 1)) = addI n (mulI n (numL n (l.take j)) 256) (l.getD j 0 : Nat) := by
  unfold numL
  rw [List.take_add_one, List.getElem?_eq_getElem h, Option.toList_some, List.foldl_append, List.getD, List.getElem?_eq_getElem h]
  rfl
theorem numL_bd (n : Int) (l : List Nat) : 0 ≤ numL n l ∧ numL n l < 2305843009213693952 := by
  unfold numL
  rcases List.eq_nil_or_concat l with rfl | ⟨m, x, rfl⟩
  · simp
  · rw [List.concat_eq_append, List.foldl_append]
    exact addI_bd _ _ _
set_option maxHeartbeats 2000000 in
set_option maxRecDepth 100000 in
theorem number_any (s : ByteArray) (n : Int) (w : World) (hs : s.size ≤ 1099511627776) :
    Calls Tryd.prog 34 #[.string s, .int .i64 n] w fun e w' => e = .returned (.int .i64 (numI n (shaF (bytesN s)))) ∧ Below w.heap.size w w' := by
  have hl32 := mkHid (shaF_len (bytesN s))
  have hlt := mkHid (shaF_lt (bytesN s))
  obtain ⟨l, hl⟩ : ∃ l, shaF (bytesN s) = l := ⟨_, rfl⟩
  have HL := mkHid hl
  rw [hl] at hl32 hlt ⊢
  clear hl
  cases hm : modB n with
  | false =>
    have hr : Hid (numI n l = 0) := mkHid (by unfold numI; rw [hm]; rfl)
    have V := mkHid hm
    clear hm
    go_enter Tryd.func34, Tryd.ntmps34
    go_wp2_with fail
    refine (valid_no n _ V.out).mono ?_
    rintro e w' ⟨rfl, rfl⟩
    go_wp2
    go_ret
    exact ⟨by rw [hr.out]; rfl, Below.refl _ _⟩
  | true =>
    have hr : Hid (numI n l = numL n (l.take 32)) := mkHid (by unfold numI; rw [hm, List.take_of_length_le (by rw [hl32.out]; exact Nat.le_refl _)]; rfl)
    have V := mkHid hm
    clear hm
    go_enter Tryd.func34, Tryd.ntmps34
    go_wp2_with fail
    refine (valid_yes n _ V.out).mono ?_
    rintro e w' ⟨rfl, rfl⟩
    go_wp2_with fail
    refine (sha_any s _ hs).mono ?_
    rintro e w1 ⟨rfl, b1⟩
    rw [HL.out]
    have B1 := mkHid b1
    have hsz : Hid ((strN l).size = 32) := mkHid (by rw [strN_size, hl32.out])
    have hbn := mkHid (bytesN_strN l hlt.out)
    clear b1
    generalize strN l = t at *
    go_wp2_with (refine wpList_bytes_of _ rfl 9 83 (.tmp 12) rfl 5 .string Tryd.underlying9 Tryd.underlying83 Tryd.underlying5 t ?cs ?cm ?_; (case cs => rfl); (case cm => have := hsz.out; simp only [maxLen]; omega); intro g0 c0 w2 o2 b2; rw [hbn.out] at o2; have O2 := mkHid o2; have B2 := mkHid (B1.out.trans (b2.mono B1.out.size)); have e0 := hsz.out; rw [e0]; clear o2 b2 e0)
    go_loopw [5, 15] (fun c d wr => ∃ (j : Nat), c = .int .i64 (numL n (l.take j)) ∧ d = .int .i64 j ∧ j ≤ 32 ∧ Hid (OwnAt wr w1.heap.size g0 0 c0 (bv l)) ∧ Hid (Below w.heap.size w wr)) (fun _ d _ => (32 - intOf d).toNat)
    case atStart => exact ⟨0, rfl, rfl, by omega, O2, B2⟩
    case round =>
      clear O2 B2 B1
      obtain ⟨j, rfl, rfl, hj, ho, hb⟩ := hrel
      by_cases hlt2 : j < 32
      · have hst := mkHid (numL_take n l j (by rw [hl32.out]; exact hlt2))
        have hc : wr.cell? ⟨g0, j, none⟩ = some (.int .u8 (l.getD j 0 : Nat)) := by
          have := ho.out.cells j _ (bv_at l j (by rw [hl32.out]; exact hlt2))
          rwa [Nat.zero_add] at this
        have hxl : l.getD j 0 < 256 := by
          rw [List.getD, List.getElem?_eq_getElem (by rw [hl32.out]; exact hlt2)]
          exact hlt.out _ (List.getElem_mem _)
        have hnb := numL_bd n (l.take j)
        generalize l.getD j 0 = x at *
        generalize numL n (l.take j) = o at *
        have hjj : (j : Int) < 32 := by omega
        go_wp2_with fail
        refine (mul_any n o 256 _).mono ?_
        rintro e w' ⟨rfl, m, rfl⟩
        have hmb := mulI_bd n o 256
        go_wp2_with fail
        refine (add_any n (mulI n o 256) x _).mono ?_
        rintro e w' ⟨rfl, rfl⟩
        go_wp2_with fail
        go_roundw
        case rel => exact ⟨j + 1, by rw [hst.out], by go_num, by omega, mkHid (ho.out.of_block rfl (Nat.le_refl _)), mkHid (below_drewN hb.out m)⟩
        case measure => simp only [intOf]; omega
      · obtain rfl : j = 32 := by omega
        rw [← hr.out]
        go_wp2
        go_ret
        exact ⟨rfl, hb.out⟩
end Go.Proofs.YtbllanmhbfnagaaDoor
namespace Go.Proofs.YtbllanmhbfnagaaDoor
open Go.RowKit
def digS : ByteArray := { data := #[48, 49, 50, 51, 52, 53, 54, 55, 56, 57, 97, 98, 99, 100, 101, 102] }
theorem dig_slice (x : Nat) (hx : x < 16) (w : World) :
    (Instr.slice 9 (.string { data := #[48, 49, 50, 51, 52, 53, 54, 55, 56, 57, 97, 98, 99, 100, 101, 102] }) (some (.int .i64 (x : Int))) (some (.int .i64 ((x : Int) + 1))) none).run Tryd.prog w = .ok (.string (strN [hexD x])) w := by
  have h : x = 0 ∨ x = 1 ∨ x = 2 ∨ x = 3 ∨ x = 4 ∨ x = 5 ∨ x = 6 ∨ x = 7 ∨ x = 8 ∨ x = 9 ∨ x = 10 ∨ x = 11 ∨ x = 12 ∨ x = 13 ∨ x = 14 ∨ x = 15 := by omega
  rcases h with rfl | rfl | rfl | rfl | rfl | rfl | rfl | rfl | rfl | rfl | rfl | rfl | rfl | rfl | rfl | rfl <;> (show Sem.run _ _ _ = _; kernel_rfl)
theorem strN_append (a b : List Nat) : strN a ++ strN b = strN (a ++ b) := by
  apply ByteArray.ext
  simp [strN]
theorem str_at (l : List Nat) (i : Nat) (hi : i < l.length) (hb : ∀ y ∈ l, y < 256) (w : World) :
    (Instr.index 9 (.string (strN l)) (.int .i64 (i : Int))).run Tryd.prog w = .ok (.int .u8 ((l.getD i 0 : Nat) : Int)) w := by
  rw [run_index_string w 9 (strN l) .i64 i Tryd.underlying9, dif_pos ⟨by omega, by rw [strN_size]; omega⟩]
  have hm := hb l[i] (List.getElem_mem hi)
  simp [strN, List.getD, hi, ByteArray.getElem_eq_getElem_data, Nat.mod_eq_of_lt hm]
theorem hexL_step (l : List Nat) (i : Nat) (h : i < l.length) : hexL (l.take i) ++ [hexD (l.getD i 0 / 16)] ++ [hexD (l.getD i 0 % 16)] = hexL (l.take (i + 1)) := by
  unfold hexL
  rw [List.take_add_one, List.flatMap_append, List.getElem?_eq_getElem h, List.getD, List.getElem?_eq_getElem h]
  simp
theorem hexL_len (l : List Nat) : (hexL l).length = 2 * l.length := by
  induction l with
  | nil => rfl
  | cons x l ih => simp only [hexL, List.flatMap_cons, List.length_append, List.length_cons, List.length_nil] at *; omega
set_option maxHeartbeats 2000000 in
set_option maxRecDepth 100000 in
theorem hex_any (l : List Nat) (w : World) (hl : l.length ≤ 1000000) (hb : ∀ y ∈ l, y < 256) :
    Calls Tryd.prog 75 #[.string (strN l)] w fun e w' => e = .returned (.string (strN (hexL l))) ∧ Below w.heap.size w w' := by
  have HB := mkHid hb
  have SZ := mkHid (strN_size l)
  have HX : Hid (∀ i : Nat, i < l.length → ∀ w, (Instr.index 9 (.string (strN l)) (.int .i64 (i : Int))).run Tryd.prog w = .ok (.int .u8 ((l.getD i 0 : Nat) : Int)) w) := mkHid (fun i hi w => str_at l i hi hb w)
  have HE : Hid (strN (hexL l) = strN (hexL (l.take l.length))) := mkHid (by rw [List.take_length])
  clear hb
  generalize strN l = t at *
  go_enter Tryd.func75, Tryd.ntmps75
  go_wp2_with fail
  go_loopw [4, 5] (fun c d wr => ∃ (i : Nat) (o : ByteArray), c = .string o ∧ d = .int .i64 i ∧ i ≤ l.length ∧ Hid (o = strN (hexL (l.take i))) ∧ Hid (Below w.heap.size w wr)) (fun _ d _ => (l.length - intOf d).toNat)
  case atStart => exact ⟨0, _, rfl, rfl, by omega, mkHid rfl, mkHid (Below.refl _ _)⟩
  case round =>
    obtain ⟨i, o, rfl, rfl, hi, ho, hw⟩ := hrel
    have hsz := SZ.out
    by_cases hlt : i < l.length
    · have hx := HX.out i hlt
      have hxl : l.getD i 0 < 256 := by rw [List.getD, List.getElem?_eq_getElem hlt]; exact HB.out _ (List.getElem_mem _)
      have hst := mkHid (hexL_step l i hlt)
      have hol : Hid (o.size ≤ 2000000) := mkHid (by rw [ho.out, strN_size, hexL_len, List.length_take]; omega)
      generalize l.getD i 0 = x at *
      have d1 := dig_slice (x / 16) (by omega)
      have d2 := dig_slice (x % 16) (by omega)
      rw [show ((x / 16 : Nat) : Int) = (x : Int) / 16 by omega] at d1
      rw [show ((x % 16 : Nat) : Int) = (x : Int) % 16 by omega] at d2
      have s1 := mkHid (strN_size [hexD (x / 16)])
      have s2 := mkHid (strN_size [hexD (x % 16)])
      have HO : Hid (o ++ strN [hexD (x / 16)] ++ strN [hexD (x % 16)] = strN (hexL (l.take (i + 1)))) := mkHid (by rw [ho.out, strN_append, strN_append, hst.out])
      generalize strN [hexD (x / 16)] = a1 at *
      generalize strN [hexD (x % 16)] = a2 at *
      have c1 : ∀ W : World, (Op.stringOp .add o a1).run Tryd.prog W = .ok (.string (o ++ a1)) W := fun W => run_string_add_sum W o a1 (by rw [s1.out]; have := hol.out; simp only [List.length_cons, List.length_nil]; omega)
      have c2 : ∀ W : World, (Op.stringOp .add (o ++ a1) a2).run Tryd.prog W = .ok (.string (o ++ a1 ++ a2)) W := fun W => run_string_add_sum W (o ++ a1) a2 (by rw [ByteArray.size_append, s1.out, s2.out]; have := hol.out; simp only [List.length_cons, List.length_nil]; omega)
      have ii : (i : Int) < l.length := by omega
      go_wp2_with fail
      go_quiet (fail)
      go_wp2
      go_roundw
      case rel => exact ⟨i + 1, _, rfl, by go_num, by omega, HO, mkHid (below_drewN hw.out nq)⟩
      case measure => simp only [intOf]; omega
    · obtain rfl : i = l.length := by omega
      go_wp2
      go_ret
      exact ⟨by rw [HE.out, ← ho.out]; rfl, hw.out⟩
end Go.Proofs.YtbllanmhbfnagaaDoor
