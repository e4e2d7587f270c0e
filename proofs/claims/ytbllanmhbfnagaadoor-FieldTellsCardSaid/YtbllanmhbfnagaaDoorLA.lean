/- FieldTells: what the property's function computes (walk; printed by wip/tools/genla.py). -/
import Derived.Test.YtbllanmhbfnagaaDoorSK
import Derived.Test.YtbllanmhbfnagaaDoorWJ
set_option linter.unusedVariables false
set_option linter.unusedSimpArgs false
namespace Go.Proofs.YtbllanmhbfnagaaDoor
open Go.RowKit Go.Sort
set_option maxHeartbeats 4000000 in
set_option maxRecDepth 100000 in
theorem tells_walk (n a b : Int) (w : World) (hT : Tab w) (b0 : -9223372036854775808 ≤ b) (b1 : b ≤ 9223372036854775807) :
    Calls Tryd.prog 3 #[.int .i64 n, .int .i64 a, .int .i64 b] w fun e w' => e = .returned (.bool true) ∧ Below w.heap.size w w' := by
  have HT := mkHid hT
  clear hT
  obtain ⟨x, hx⟩ : ∃ y, invI n a = y := ⟨_, rfl⟩
  have Hx := mkHid hx
  obtain ⟨ok, hok⟩ : ∃ y, invB n a = y := ⟨_, rfl⟩
  have Hok := mkHid hok
  obtain ⟨p, hp⟩ : ∃ y, primeB n = y := ⟨_, rfl⟩
  have Hp := mkHid hp
  obtain ⟨s, hs⟩ : ∃ y, addI n a b = y := ⟨_, rfl⟩
  have Hs := mkHid hs
  obtain ⟨d, hd⟩ : ∃ y, subI n a b = y := ⟨_, rfl⟩
  have Hd := mkHid hd
  obtain ⟨m, hm⟩ : ∃ y, mulI n a b = y := ⟨_, rfl⟩
  have Hm := mkHid hm
  obtain ⟨q, hq⟩ : ∃ y, powS n a b = y := ⟨_, rfl⟩
  have Hq := mkHid hq
  clear hx hok hp hs hd hm hq
  go_enter Tryd.func3, Tryd.ntmps3
  have B0 := mkHid (Below.refl w.heap.size w)
  go_wp2_with fail
  refine (sane_any _ (HT.out.step B0.out)).mono ?_
  rintro e w1 ⟨rfl, b1⟩
  have B1 := mkHid (B0.out.trans (b1.mono B0.out.size))
  clear b1 B0
  go_wp2_with fail
  refine (inv_any n a _).mono ?_
  rintro e w2 ⟨rfl, b2⟩
  rw [Hx.out, Hok.out]
  have b2 := drew_below b2
  have B2 := mkHid (B1.out.trans (b2.mono B1.out.size))
  clear b2 B1
  go_wp2_with fail
  refine (rinv_any n a _).mono ?_
  rintro e w' ⟨rfl, rfl⟩
  rw [Hx.out, Hok.out]
  go_wp2_with fail
  refine (prime_any n _ (HT.out.step B2.out)).mono ?_
  rintro e w3 ⟨rfl, b3⟩
  rw [Hp.out]
  have B3 := mkHid (B2.out.trans (b3.mono B2.out.size))
  clear b3 B2
  go_wp2_with fail
  refine (rprime_any n _).mono ?_
  rintro e w4 ⟨rfl, b4⟩
  rw [Hp.out]
  have B4 := mkHid (B3.out.trans (b4.mono B3.out.size))
  clear b4 B3
  go_wp2_with fail
  refine (add_any n a b _).mono ?_
  rintro e w' ⟨rfl, rfl⟩
  rw [Hs.out]
  go_wp2_with fail
  refine (radd_any n a b _).mono ?_
  rintro e w' ⟨rfl, rfl⟩
  rw [Hs.out]
  go_wp2_with fail
  refine (sub_any n a b _).mono ?_
  rintro e w' ⟨rfl, rfl⟩
  rw [Hd.out]
  go_wp2_with fail
  refine (rsub_any n a b _).mono ?_
  rintro e w' ⟨rfl, rfl⟩
  rw [Hd.out]
  go_wp2_with fail
  refine (mul_any n a b _).mono ?_
  rintro e w5 ⟨rfl, b5⟩
  rw [Hm.out]
  have b5 := drew_below b5
  have B5 := mkHid (B4.out.trans (b5.mono B4.out.size))
  clear b5 B4
  go_wp2_with fail
  refine (rmul_any n a b _).mono ?_
  rintro e w' ⟨rfl, rfl⟩
  rw [Hm.out]
  go_wp2_with fail
  refine (pow_any n a b _ b0 b1).mono ?_
  rintro e w6 ⟨rfl, b6⟩
  rw [Hq.out]
  have b6 := drew_below b6
  have B6 := mkHid (B5.out.trans (b6.mono B5.out.size))
  clear b6 B5
  go_wp2_with fail
  refine (rpow_any n a b _ b0 b1).mono ?_
  rintro e w' ⟨rfl, rfl⟩
  rw [Hq.out]
  go_wp2_with fail
  go_ret
  exact ⟨rfl, B6.out⟩
end Go.Proofs.YtbllanmhbfnagaaDoor
