/- The examples of the chapter (walk; printed by wip/tools/gensane.py). -/
import Derived.Test.YtbllanmhbfnagaaDoorU11
import Derived.Test.YtbllanmhbfnagaaDoorU15
set_option linter.unusedVariables false
set_option linter.unusedSimpArgs false
namespace Go.Proofs.YtbllanmhbfnagaaDoor
open Go.RowKit Go.Sort
theorem sane_hexs : strN (hexL (shaF [97, 98, 99])) = { data := #[98, 97, 55, 56, 49, 54, 98, 102, 56, 102, 48, 49, 99, 102, 101, 97, 52, 49, 52, 49, 52, 48, 100, 101, 53, 100, 97, 101, 50, 50, 50, 51, 98, 48, 48, 51, 54, 49, 97, 51, 57, 54, 49, 55, 55, 97, 57, 99, 98, 52, 49, 48, 102, 102, 54, 49, 102, 50, 48, 48, 49, 53, 97, 100] } := by rw [sane_hex]; rfl
theorem bytes_abc : bytesN { data := #[97, 98, 99] } = [97, 98, 99] := rfl
set_option maxHeartbeats 8000000 in
set_option maxRecDepth 100000 in
theorem sane_any (w : World) (hT : Tab w) :
    Calls Tryd.prog 19 #[] w fun e w' => e = .returned (.bool true) ∧ Below w.heap.size w w' := by
  have HT := mkHid hT
  have SI := mkHid sane_inv
  have SO := mkHid sane_one
  have SG := mkHid sane_group
  have SN := mkHid sane_number
  have SP := mkHid sane_prime
  have HB3 := mkHid bytes_abc
  have HS3 : Hid (({ data := #[97, 98, 99] } : ByteArray).size ≤ 1099511627776) := mkHid (by decide)
  have HS4 : Hid ((shaF [97, 98, 99]).length ≤ 1000000) := mkHid (by rw [shaF_len]; omega)
  have HS5 := mkHid (shaF_lt [97, 98, 99])
  have HX := mkHid sane_hexs
  clear hT
  go_enter Tryd.func19, Tryd.ntmps19
  have B0 := mkHid (Below.refl w.heap.size w)
  go_wp2_with fail
  refine (inv_any 12 5 _).mono ?_
  rintro e w1 ⟨rfl, b1⟩
  rw [SI.out.1, SI.out.2.1]
  have b1 := drew_below b1
  have B1 := mkHid (B0.out.trans (b1.mono B0.out.size))
  clear b1 B0
  go_wp2_with fail
  refine (inv_any 12 8 _).mono ?_
  rintro e w2 ⟨rfl, b2⟩
  rw [SI.out.2.2]
  have b2 := drew_below b2
  have B2 := mkHid (B1.out.trans (b2.mono B1.out.size))
  clear b2 B1
  go_wp2_with fail
  generalize invI 12 8 = junk at *
  refine (make_yes 11 _ (HT.out.step B2.out) SG.out.1).mono ?_
  rintro e w3 ⟨rfl, b3⟩
  have B3 := mkHid (B2.out.trans (b3.mono B2.out.size))
  clear b3 B2
  have ha := mkHid B3.out.size
  simp only [grpV, gcells, show (2 * 11 + 1 : Int) = 23 from rfl]
  go_wp2_with (refine wpList_store_abs rfl 38 (.tmp 5) (.tmp 23) rfl w3.heap.size #[.int .i64 23, .int .i64 11, .int .i64 4] ?s1 ?s2 38 _ (heap_alloc_last _ _) (ginf 23 11 4) rfl (gone 23 11 4) ?_; (case s1 => rfl); (case s2 => rfl); intro w4 s3 u3; have G4 : Hid (HasG w4 w3.heap.size 23 11 4) := mkHid s3; have B4 := mkHid (u3.below (B3.out.alloc B3.out.size _) ha.out); clear s3 u3 B3)
  generalize w3.heap.size = A at *
  obtain ⟨c0, c1, c2⟩ := G4.out.cells
  refine (make_no 13 _ (HT.out.step B4.out) SG.out.2.1).mono ?_
  rintro e w5 ⟨rfl, b5⟩
  have B5 := mkHid (B4.out.trans (b5.mono B4.out.size))
  have G5 := mkHid (G4.out.below b5)
  clear b5 B4 G4 c0 c1 c2
  have hb := mkHid G5.out.lt
  simp only [grpV, gcells]
  go_wp2_with (refine wpList_store_abs rfl 38 (.tmp 7) (.tmp 27) rfl w5.heap.size #[.int .i64 0, .int .i64 0, .int .i64 0] ?t1 ?t2 38 _ (heap_alloc_last _ _) (ginf 0 0 0) rfl (gone 0 0 0) ?_; (case t1 => rfl); (case t2 => rfl); intro w6 s3 u3; have G6 := mkHid ((G5.out.alloc _).upd u3 (by have := hb.out; omega)); have B6 := mkHid (u3.below (B5.out.alloc B5.out.size _) (by have := B5.out.size; omega)); clear s3 u3 B5 G5)
  obtain ⟨c0, c1, c2⟩ := G6.out.cells
  refine (add_any 11 9 5 _).mono ?_
  rintro e w' ⟨rfl, rfl⟩
  rw [SO.out.1]
  go_wp2_with fail
  refine (sub_any 11 9 5 _).mono ?_
  rintro e w' ⟨rfl, rfl⟩
  rw [SO.out.2.1]
  go_wp2_with fail
  refine (mul_any 11 9 5 _).mono ?_
  rintro e w7 ⟨rfl, b7⟩
  rw [SO.out.2.2.1]
  have b7 := drew_below b7
  have B7 := mkHid (B6.out.trans (b7.mono B6.out.size))
  have G7 := mkHid (G6.out.below b7)
  clear c0 c1 c2 G6 b7 B6
  obtain ⟨c0, c1, c2⟩ := G7.out.cells
  go_wp2_with fail
  refine (pow_any 11 2 10 _ (by omega) (by omega)).mono ?_
  rintro e w8 ⟨rfl, b8⟩
  rw [SO.out.2.2.2.1]
  have b8 := drew_below b8
  have B8 := mkHid (B7.out.trans (b8.mono B7.out.size))
  have G8 := mkHid (G7.out.below b8)
  clear c0 c1 c2 G7 b8 B7
  obtain ⟨c0, c1, c2⟩ := G8.out.cells
  go_wp2_with fail
  refine (pow_any 11 2 (-1) _ (by omega) (by omega)).mono ?_
  rintro e w9 ⟨rfl, b9⟩
  rw [SO.out.2.2.2.2.1]
  have b9 := drew_below b9
  have B9 := mkHid (B8.out.trans (b9.mono B8.out.size))
  have G9 := mkHid (G8.out.below b9)
  clear c0 c1 c2 G8 b9 B8
  obtain ⟨c0, c1, c2⟩ := G9.out.cells
  go_wp2_with fail
  refine (pow_any 12 2 (-1) _ (by omega) (by omega)).mono ?_
  rintro e w10 ⟨rfl, b10⟩
  rw [SO.out.2.2.2.2.2.1]
  have b10 := drew_below b10
  have B10 := mkHid (B9.out.trans (b10.mono B9.out.size))
  have G10 := mkHid (G9.out.below b10)
  clear c0 c1 c2 G9 b10 B9
  obtain ⟨c0, c1, c2⟩ := G10.out.cells
  go_wp2_with fail
  refine (pow_any 1 0 0 _ (by omega) (by omega)).mono ?_
  rintro e w11 ⟨rfl, b11⟩
  rw [SO.out.2.2.2.2.2.2]
  have b11 := drew_below b11
  have B11 := mkHid (B10.out.trans (b11.mono B10.out.size))
  have G11 := mkHid (G10.out.below b11)
  clear c0 c1 c2 G10 b11 B10
  obtain ⟨c0, c1, c2⟩ := G11.out.cells
  go_wp2_with fail
  refine (valid_group_any 23 11 4 _ (HT.out.step B11.out)).mono ?_
  rintro e w12 ⟨rfl, b12⟩
  rw [SG.out.1]
  have B12 := mkHid (B11.out.trans (b12.mono B11.out.size))
  have G12 := mkHid (G11.out.below b12)
  clear c0 c1 c2 G11 b12 B11
  obtain ⟨c0, c1, c2⟩ := G12.out.cells
  go_wp2_with fail
  refine (power_g_any 23 11 4 4 3 _).mono ?_
  rintro e w13 ⟨rfl, b13⟩
  rw [SG.out.2.2.1]
  have B13 := mkHid (B12.out.trans (b13.mono B12.out.size))
  have G13 := mkHid (G12.out.below b13)
  clear c0 c1 c2 G12 b13 B12
  obtain ⟨c0, c1, c2⟩ := G13.out.cells
  go_wp2_with fail
  refine (power_g_any 23 11 4 4 (-1) _).mono ?_
  rintro e w14 ⟨rfl, b14⟩
  rw [SG.out.2.2.2.1]
  have B14 := mkHid (B13.out.trans (b14.mono B13.out.size))
  have G14 := mkHid (G13.out.below b14)
  clear c0 c1 c2 G13 b14 B13
  obtain ⟨c0, c1, c2⟩ := G14.out.cells
  go_wp2_with fail
  refine (over_any 23 11 4 16 18 _).mono ?_
  rintro e w15 ⟨rfl, b15⟩
  rw [SG.out.2.2.2.2.1]
  have B15 := mkHid (B14.out.trans (b15.mono B14.out.size))
  have G15 := mkHid (G14.out.below b15)
  clear c0 c1 c2 G14 b15 B14
  obtain ⟨c0, c1, c2⟩ := G15.out.cells
  go_wp2_with fail
  refine (element_any 23 11 4 2 _ (HT.out.step B15.out)).mono ?_
  rintro e w16 ⟨rfl, b16⟩
  rw [SG.out.2.2.2.2.2.1]
  have B16 := mkHid (B15.out.trans (b16.mono B15.out.size))
  have G16 := mkHid (G15.out.below b16)
  clear c0 c1 c2 G15 b16 B15
  obtain ⟨c0, c1, c2⟩ := G16.out.cells
  go_wp2_with fail
  refine (element_any 23 11 4 5 _ (HT.out.step B16.out)).mono ?_
  rintro e w17 ⟨rfl, b17⟩
  rw [SG.out.2.2.2.2.2.2]
  have B17 := mkHid (B16.out.trans (b17.mono B16.out.size))
  have G17 := mkHid (G16.out.below b17)
  clear c0 c1 c2 G16 b17 B16
  obtain ⟨c0, c1, c2⟩ := G17.out.cells
  go_wp2_with fail
  refine (sha_any { data := #[97, 98, 99] } _ HS3.out).mono ?_
  rintro e w18 ⟨rfl, b18⟩
  rw [HB3.out]
  have B18 := mkHid (B17.out.trans (b18.mono B17.out.size))
  have G18 := mkHid (G17.out.below b18)
  clear c0 c1 c2 G17 b18 B17
  obtain ⟨c0, c1, c2⟩ := G18.out.cells
  go_wp2_with fail
  refine (hex_any (shaF [97, 98, 99]) _ HS4.out HS5.out).mono ?_
  rintro e w19 ⟨rfl, b19⟩
  rw [HX.out]
  have B19 := mkHid (B18.out.trans (b19.mono B18.out.size))
  have G19 := mkHid (G18.out.below b19)
  clear c0 c1 c2 G18 b19 B18
  obtain ⟨c0, c1, c2⟩ := G19.out.cells
  go_wp2_with fail
  refine (number_any { data := #[97, 98, 99] } 256 _ HS3.out).mono ?_
  rintro e w20 ⟨rfl, b20⟩
  rw [HB3.out, SN.out.1]
  have B20 := mkHid (B19.out.trans (b20.mono B19.out.size))
  have G20 := mkHid (G19.out.below b20)
  clear c0 c1 c2 G19 b20 B19
  obtain ⟨c0, c1, c2⟩ := G20.out.cells
  go_wp2_with fail
  refine (number_any { data := #[97, 98, 99] } 65536 _ HS3.out).mono ?_
  rintro e w21 ⟨rfl, b21⟩
  rw [HB3.out, SN.out.2]
  have B21 := mkHid (B20.out.trans (b21.mono B20.out.size))
  have G21 := mkHid (G20.out.below b21)
  clear c0 c1 c2 G20 b21 B20
  obtain ⟨c0, c1, c2⟩ := G21.out.cells
  go_wp2_with fail
  refine (prime_any 2 _ (HT.out.step B21.out)).mono ?_
  rintro e w22 ⟨rfl, b22⟩
  rw [SP.out.1]
  have B22 := mkHid (B21.out.trans (b22.mono B21.out.size))
  have G22 := mkHid (G21.out.below b22)
  clear c0 c1 c2 G21 b22 B21
  obtain ⟨c0, c1, c2⟩ := G22.out.cells
  go_wp2_with fail
  refine (prime_any 1013 _ (HT.out.step B22.out)).mono ?_
  rintro e w23 ⟨rfl, b23⟩
  rw [SP.out.2.1]
  have B23 := mkHid (B22.out.trans (b23.mono B22.out.size))
  have G23 := mkHid (G22.out.below b23)
  clear c0 c1 c2 G22 b23 B22
  obtain ⟨c0, c1, c2⟩ := G23.out.cells
  go_wp2_with fail
  refine (prime_any 1011 _ (HT.out.step B23.out)).mono ?_
  rintro e w24 ⟨rfl, b24⟩
  rw [SP.out.2.2.1]
  have B24 := mkHid (B23.out.trans (b24.mono B23.out.size))
  have G24 := mkHid (G23.out.below b24)
  clear c0 c1 c2 G23 b24 B23
  obtain ⟨c0, c1, c2⟩ := G24.out.cells
  go_wp2_with fail
  refine (prime_any 1 _ (HT.out.step B24.out)).mono ?_
  rintro e w25 ⟨rfl, b25⟩
  rw [SP.out.2.2.2.1]
  have B25 := mkHid (B24.out.trans (b25.mono B24.out.size))
  have G25 := mkHid (G24.out.below b25)
  clear c0 c1 c2 G24 b25 B24
  obtain ⟨c0, c1, c2⟩ := G25.out.cells
  go_wp2_with fail
  go_ret
  exact ⟨rfl, B25.out⟩
end Go.Proofs.YtbllanmhbfnagaaDoor
