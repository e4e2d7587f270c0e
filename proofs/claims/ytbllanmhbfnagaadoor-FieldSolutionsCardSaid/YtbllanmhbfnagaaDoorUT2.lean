/- FieldSolutions: what the property's function computes where nothing is asked (walks; printed by wip/tools/gensol.py). FieldSolutions: what the property's function computes (walk). -/
import Derived.Test.YtbllanmhbfnagaaDoorUT1
import Derived.Test.YtbllanmhbfnagaaDoorU36
set_option linter.unusedVariables false
set_option linter.unusedSimpArgs false
namespace Go.Proofs.YtbllanmhbfnagaaDoor
open Go.RowKit Go.Sort
theorem ArgR.first {w : World} {a : Option Addr} {n : Nat} {L : List (List Int)} (h : ArgR w a n L) (h0 : 0 < n) : ∃ g o r k c, a = some ⟨g, o, none⟩ ∧ w.cell? ⟨g, o, none⟩ = some (.slice r k c) ∧ k = (L.getD 0 []).length ∧ g < w.heap.size := by
  obtain ⟨g, o, e, hg, hc⟩ := h.here h0
  obtain ⟨r, k, c, x, ai⟩ := hc 0 h0
  exact ⟨g, o, r, k, c, e, x, ai.len, hg⟩
set_option maxHeartbeats 4000000 in
set_option maxRecDepth 100000 in
theorem sol_none (q0 : Int) (p : Nat) (a1 a2 : Option Addr) (n c1 nb c2 : Nat) (L : List (List Int)) (w : World) (hT : Tab w) (hR : ArgR w a1 n L) (q00 : 0 ≤ q0) (q01 : q0 ≤ 255) (hp : q0.tmod 14 = (p : Int))  :
    Calls Tryd.prog 14 #[.int .u8 q0, .slice a1 0 c1, .slice a2 nb c2] w fun e w' => e = .returned (.bool true) ∧ Below w.heap.size w w' := by
  have HT := mkHid hT
  have HR := mkHid hR
  clear hT hR
  have cvq : IntKind.i64.wrap q0 = q0 := IntWalk.i64_in _ (by omega)
  go_enter Tryd.func14, Tryd.ntmps14
  go_wp2_with fail
  refine (saneL_any _ HT.out).mono ?_
  rintro e w1 ⟨rfl, b1⟩
  have B1 := mkHid b1
  have R1 := mkHid (HR.out.below b1)
  clear b1
  have BB := mkHid B1.out
  go_wp2
  go_ret
  exact ⟨rfl, BB.out⟩
set_option maxHeartbeats 4000000 in
set_option maxRecDepth 100000 in
theorem sol_many (q0 : Int) (p : Nat) (a1 a2 : Option Addr) (n c1 nb c2 : Nat) (L : List (List Int)) (w : World) (hT : Tab w) (hR : ArgR w a1 n L) (q00 : 0 ≤ q0) (q01 : q0 ≤ 255) (hp : q0.tmod 14 = (p : Int)) (hn : 4 < n) :
    Calls Tryd.prog 14 #[.int .u8 q0, .slice a1 n c1, .slice a2 nb c2] w fun e w' => e = .returned (.bool true) ∧ Below w.heap.size w w' := by
  have HT := mkHid hT
  have HR := mkHid hR
  clear hT hR
  have cvq : IntKind.i64.wrap q0 = q0 := IntWalk.i64_in _ (by omega)
  have n0 : ((n : Int) == 0) = false := by rw [beq_eq_false_iff_ne]; omega
  have n1 : ¬ (n = 0) := by omega
  have n2 : decide (n = 0) = false := decide_eq_false n1
  have d1 : decide ((4 : Int) < n) = true := decide_eq_true (by omega)
  go_enter Tryd.func14, Tryd.ntmps14
  go_wp2_with fail
  refine (saneL_any _ HT.out).mono ?_
  rintro e w1 ⟨rfl, b1⟩
  have B1 := mkHid b1
  have R1 := mkHid (HR.out.below b1)
  clear b1
  have BB := mkHid B1.out
  go_wp2
  go_ret
  exact ⟨rfl, BB.out⟩
set_option maxHeartbeats 4000000 in
set_option maxRecDepth 100000 in
theorem sol_other (q0 : Int) (p : Nat) (a1 a2 : Option Addr) (n c1 nb c2 : Nat) (L : List (List Int)) (w : World) (hT : Tab w) (hR : ArgR w a1 n L) (q00 : 0 ≤ q0) (q01 : q0 ≤ 255) (hp : q0.tmod 14 = (p : Int)) (h0 : 0 < n) (hn : n ≤ 4) (hne : nb ≠ n) :
    Calls Tryd.prog 14 #[.int .u8 q0, .slice a1 n c1, .slice a2 nb c2] w fun e w' => e = .returned (.bool true) ∧ Below w.heap.size w w' := by
  have HT := mkHid hT
  have HR := mkHid hR
  clear hT hR
  have cvq : IntKind.i64.wrap q0 = q0 := IntWalk.i64_in _ (by omega)
  have n0 : ((n : Int) == 0) = false := by rw [beq_eq_false_iff_ne]; omega
  have n1 : ¬ (n = 0) := by omega
  have n2 : decide (n = 0) = false := decide_eq_false n1
  have d1 : decide ((4 : Int) < n) = false := decide_eq_false (by omega)
  have e1 : ((nb : Int) == (n : Int)) = false := by rw [beq_eq_false_iff_ne]; omega
  have e2 : ((nb : Int) != (n : Int)) = true := by rw [bne, e1]; rfl
  have e3 : decide (nb = n) = false := decide_eq_false hne
  have HNE := mkHid hne
  clear hne
  go_enter Tryd.func14, Tryd.ntmps14
  go_wp2_with fail
  refine (saneL_any _ HT.out).mono ?_
  rintro e w1 ⟨rfl, b1⟩
  have B1 := mkHid b1
  have R1 := mkHid (HR.out.below b1)
  clear b1
  have BB := mkHid B1.out
  go_wp2
  go_ret
  exact ⟨rfl, BB.out⟩
set_option maxHeartbeats 4000000 in
set_option maxRecDepth 100000 in
theorem sol_noprime (q0 : Int) (p : Nat) (a1 a2 : Option Addr) (n c1 nb c2 : Nat) (L : List (List Int)) (w : World) (hT : Tab w) (hR : ArgR w a1 n L) (q00 : 0 ≤ q0) (q01 : q0 ≤ 255) (hp : q0.tmod 14 = (p : Int)) (h0 : 0 < n) (hn : n ≤ 4) (hv : primeB (p : Int) = false) :
    Calls Tryd.prog 14 #[.int .u8 q0, .slice a1 n c1, .slice a2 n c2] w fun e w' => e = .returned (.bool true) ∧ Below w.heap.size w w' := by
  have HT := mkHid hT
  have HR := mkHid hR
  clear hT hR
  have cvq : IntKind.i64.wrap q0 = q0 := IntWalk.i64_in _ (by omega)
  have n0 : ((n : Int) == 0) = false := by rw [beq_eq_false_iff_ne]; omega
  have n1 : ¬ (n = 0) := by omega
  have n2 : decide (n = 0) = false := decide_eq_false n1
  have d1 : decide ((4 : Int) < n) = false := decide_eq_false (by omega)
  have e1 : ((n : Int) == (n : Int)) = true := by simp
  have e2 : ((n : Int) != (n : Int)) = false := by simp
  have HV := mkHid hv
  clear hv
  go_enter Tryd.func14, Tryd.ntmps14
  go_wp2_with fail
  refine (saneL_any _ HT.out).mono ?_
  rintro e w1 ⟨rfl, b1⟩
  have B1 := mkHid b1
  have R1 := mkHid (HR.out.below b1)
  clear b1
  go_wp2_with fail
  refine (prime_any (p : Int) _ (HT.out.step B1.out)).mono ?_
  rintro e w2 ⟨rfl, b2⟩
  have B2 := mkHid (B1.out.trans (b2.mono B1.out.size))
  have R2 := mkHid (R1.out.below b2)
  rw [HV.out]
  clear b2
  have BB := B2
  go_wp2
  go_ret
  exact ⟨rfl, BB.out⟩
set_option maxHeartbeats 4000000 in
set_option maxRecDepth 100000 in
theorem sol_zero (q0 : Int) (p : Nat) (a1 a2 : Option Addr) (n c1 nb c2 : Nat) (L : List (List Int)) (w : World) (hT : Tab w) (hR : ArgR w a1 n L) (q00 : 0 ≤ q0) (q01 : q0 ≤ 255) (hp : q0.tmod 14 = (p : Int)) (h0 : 0 < n) (hn : n ≤ 4) (hv : primeB (p : Int) = true) (hc : (L.getD 0 []).length = 0) :
    Calls Tryd.prog 14 #[.int .u8 q0, .slice a1 n c1, .slice a2 n c2] w fun e w' => e = .returned (.bool true) ∧ Below w.heap.size w w' := by
  have HT := mkHid hT
  have HR := mkHid hR
  clear hT hR
  have cvq : IntKind.i64.wrap q0 = q0 := IntWalk.i64_in _ (by omega)
  have n0 : ((n : Int) == 0) = false := by rw [beq_eq_false_iff_ne]; omega
  have n1 : ¬ (n = 0) := by omega
  have n2 : decide (n = 0) = false := decide_eq_false n1
  have d1 : decide ((4 : Int) < n) = false := decide_eq_false (by omega)
  have e1 : ((n : Int) == (n : Int)) = true := by simp
  have e2 : ((n : Int) != (n : Int)) = false := by simp
  have HV := mkHid hv
  clear hv
  have HC := mkHid hc
  clear hc
  go_enter Tryd.func14, Tryd.ntmps14
  go_wp2_with fail
  refine (saneL_any _ HT.out).mono ?_
  rintro e w1 ⟨rfl, b1⟩
  have B1 := mkHid b1
  have R1 := mkHid (HR.out.below b1)
  clear b1
  go_wp2_with fail
  refine (prime_any (p : Int) _ (HT.out.step B1.out)).mono ?_
  rintro e w2 ⟨rfl, b2⟩
  have B2 := mkHid (B1.out.trans (b2.mono B1.out.size))
  have R2 := mkHid (R1.out.below b2)
  rw [HV.out]
  clear b2
  obtain ⟨g, o, r, k, c, rfl, x1, hk, -⟩ := R2.out.first h0
  have HK := mkHid hk
  clear hk
  have nn : (0 : Int) < n := by omega
  have HN0 := mkHid h0
  obtain rfl : k = 0 := by rw [HK.out, HC.out]
  have BB := B2
  go_wp2
  go_ret
  exact ⟨rfl, BB.out⟩
set_option maxHeartbeats 4000000 in
set_option maxRecDepth 100000 in
theorem sol_wide (q0 : Int) (p : Nat) (a1 a2 : Option Addr) (n c1 nb c2 : Nat) (L : List (List Int)) (w : World) (hT : Tab w) (hR : ArgR w a1 n L) (q00 : 0 ≤ q0) (q01 : q0 ≤ 255) (hp : q0.tmod 14 = (p : Int)) (h0 : 0 < n) (hn : n ≤ 4) (hv : primeB (p : Int) = true) (hc : 5 < (L.getD 0 []).length) :
    Calls Tryd.prog 14 #[.int .u8 q0, .slice a1 n c1, .slice a2 n c2] w fun e w' => e = .returned (.bool true) ∧ Below w.heap.size w w' := by
  have HT := mkHid hT
  have HR := mkHid hR
  clear hT hR
  have cvq : IntKind.i64.wrap q0 = q0 := IntWalk.i64_in _ (by omega)
  have n0 : ((n : Int) == 0) = false := by rw [beq_eq_false_iff_ne]; omega
  have n1 : ¬ (n = 0) := by omega
  have n2 : decide (n = 0) = false := decide_eq_false n1
  have d1 : decide ((4 : Int) < n) = false := decide_eq_false (by omega)
  have e1 : ((n : Int) == (n : Int)) = true := by simp
  have e2 : ((n : Int) != (n : Int)) = false := by simp
  have HV := mkHid hv
  clear hv
  have HC := mkHid hc
  clear hc
  go_enter Tryd.func14, Tryd.ntmps14
  go_wp2_with fail
  refine (saneL_any _ HT.out).mono ?_
  rintro e w1 ⟨rfl, b1⟩
  have B1 := mkHid b1
  have R1 := mkHid (HR.out.below b1)
  clear b1
  go_wp2_with fail
  refine (prime_any (p : Int) _ (HT.out.step B1.out)).mono ?_
  rintro e w2 ⟨rfl, b2⟩
  have B2 := mkHid (B1.out.trans (b2.mono B1.out.size))
  have R2 := mkHid (R1.out.below b2)
  rw [HV.out]
  clear b2
  obtain ⟨g, o, r, k, c, rfl, x1, hk, -⟩ := R2.out.first h0
  have HK := mkHid hk
  clear hk
  have nn : (0 : Int) < n := by omega
  have HN0 := mkHid h0
  have k5 : 5 < k := by rw [HK.out]; exact HC.out
  have k6 : decide ((k : Int) < 1) = false := decide_eq_false (by omega)
  have k7 : decide ((5 : Int) < k) = true := decide_eq_true (by omega)
  have BB := B2
  go_wp2
  go_ret
  exact ⟨rfl, BB.out⟩
set_option maxHeartbeats 4000000 in
set_option maxRecDepth 100000 in
theorem sol_unshaped (q0 : Int) (p : Nat) (a1 a2 : Option Addr) (n c1 nb c2 : Nat) (L : List (List Int)) (w : World) (hT : Tab w) (hR : ArgR w a1 n L) (q00 : 0 ≤ q0) (q01 : q0 ≤ 255) (hp : q0.tmod 14 = (p : Int)) (h0 : 0 < n) (hn : n ≤ 4) (hv : primeB (p : Int) = true) (hc : 1 ≤ (L.getD 0 []).length ∧ (L.getD 0 []).length ≤ 5) (hs : shB L (L.getD 0 []).length n = false) :
    Calls Tryd.prog 14 #[.int .u8 q0, .slice a1 n c1, .slice a2 n c2] w fun e w' => e = .returned (.bool true) ∧ Below w.heap.size w w' := by
  have HT := mkHid hT
  have HR := mkHid hR
  clear hT hR
  have cvq : IntKind.i64.wrap q0 = q0 := IntWalk.i64_in _ (by omega)
  have n0 : ((n : Int) == 0) = false := by rw [beq_eq_false_iff_ne]; omega
  have n1 : ¬ (n = 0) := by omega
  have n2 : decide (n = 0) = false := decide_eq_false n1
  have d1 : decide ((4 : Int) < n) = false := decide_eq_false (by omega)
  have e1 : ((n : Int) == (n : Int)) = true := by simp
  have e2 : ((n : Int) != (n : Int)) = false := by simp
  have HV := mkHid hv
  clear hv
  have HC := mkHid hc
  have HS := mkHid hs
  clear hc hs
  go_enter Tryd.func14, Tryd.ntmps14
  go_wp2_with fail
  refine (saneL_any _ HT.out).mono ?_
  rintro e w1 ⟨rfl, b1⟩
  have B1 := mkHid b1
  have R1 := mkHid (HR.out.below b1)
  clear b1
  go_wp2_with fail
  refine (prime_any (p : Int) _ (HT.out.step B1.out)).mono ?_
  rintro e w2 ⟨rfl, b2⟩
  have B2 := mkHid (B1.out.trans (b2.mono B1.out.size))
  have R2 := mkHid (R1.out.below b2)
  rw [HV.out]
  clear b2
  obtain ⟨g, o, r, k, c, rfl, x1, hk, -⟩ := R2.out.first h0
  have HK := mkHid hk
  clear hk
  have nn : (0 : Int) < n := by omega
  have HN0 := mkHid h0
  have k5 : 1 ≤ k ∧ k ≤ 5 := by rw [HK.out]; exact HC.out
  have k6 : decide ((k : Int) < 1) = false := decide_eq_false (by omega)
  have k7 : decide ((5 : Int) < k) = false := decide_eq_false (by omega)
  go_wp2_with fail
  have KS := shaped_any (some ⟨g, o, none⟩) n c1 k L w2 hn R2.out
  rw [HK.out, HS.out, ← HK.out] at KS
  refine KS.mono ?_
  rintro e w3 ⟨rfl, rfl⟩
  have BB := B2
  go_wp2
  go_ret
  exact ⟨rfl, BB.out⟩
set_option maxHeartbeats 4000000 in
set_option maxRecDepth 100000 in
theorem sol_big (q0 : Int) (p : Nat) (a1 a2 : Option Addr) (n c1 nb c2 : Nat) (L : List (List Int)) (w : World) (hT : Tab w) (hR : ArgR w a1 n L) (q00 : 0 ≤ q0) (q01 : q0 ≤ 255) (hp : q0.tmod 14 = (p : Int)) (h0 : 0 < n) (hn : n ≤ 4) (hv : primeB (p : Int) = true) (hc : 1 ≤ (L.getD 0 []).length ∧ (L.getD 0 []).length ≤ 5) (hs : shB L (L.getD 0 []).length n = true) (hp13 : p ≤ 13) (u : Nat) (hu : capF p (L.getD 0 []).length = u) (hu2 : 2500 < u) :
    Calls Tryd.prog 14 #[.int .u8 q0, .slice a1 n c1, .slice a2 n c2] w fun e w' => e = .returned (.bool true) ∧ Below w.heap.size w w' := by
  have HT := mkHid hT
  have HR := mkHid hR
  clear hT hR
  have cvq : IntKind.i64.wrap q0 = q0 := IntWalk.i64_in _ (by omega)
  have n0 : ((n : Int) == 0) = false := by rw [beq_eq_false_iff_ne]; omega
  have n1 : ¬ (n = 0) := by omega
  have n2 : decide (n = 0) = false := decide_eq_false n1
  have d1 : decide ((4 : Int) < n) = false := decide_eq_false (by omega)
  have e1 : ((n : Int) == (n : Int)) = true := by simp
  have e2 : ((n : Int) != (n : Int)) = false := by simp
  have HV := mkHid hv
  clear hv
  have HC := mkHid hc
  have HS := mkHid hs
  have HU := mkHid hu
  have u1 : decide ((2500 : Int) < u) = true := decide_eq_true (by omega)
  clear hc hs hu
  go_enter Tryd.func14, Tryd.ntmps14
  go_wp2_with fail
  refine (saneL_any _ HT.out).mono ?_
  rintro e w1 ⟨rfl, b1⟩
  have B1 := mkHid b1
  have R1 := mkHid (HR.out.below b1)
  clear b1
  go_wp2_with fail
  refine (prime_any (p : Int) _ (HT.out.step B1.out)).mono ?_
  rintro e w2 ⟨rfl, b2⟩
  have B2 := mkHid (B1.out.trans (b2.mono B1.out.size))
  have R2 := mkHid (R1.out.below b2)
  rw [HV.out]
  clear b2
  obtain ⟨g, o, r, k, c, rfl, x1, hk, -⟩ := R2.out.first h0
  have HK := mkHid hk
  clear hk
  have nn : (0 : Int) < n := by omega
  have HN0 := mkHid h0
  have k5 : 1 ≤ k ∧ k ≤ 5 := by rw [HK.out]; exact HC.out
  have k6 : decide ((k : Int) < 1) = false := decide_eq_false (by omega)
  have k7 : decide ((5 : Int) < k) = false := decide_eq_false (by omega)
  go_wp2_with fail
  have KS := shaped_any (some ⟨g, o, none⟩) n c1 k L w2 hn R2.out
  rw [HK.out, HS.out, ← HK.out] at KS
  refine KS.mono ?_
  rintro e w3 ⟨rfl, rfl⟩
  go_wp2_with fail
  have KP := lpower_any p k w2 hp13 (by omega)
  rw [HK.out, HU.out, ← HK.out] at KP
  refine KP.mono ?_
  rintro e w3 ⟨rfl, rfl⟩
  have BB := B2
  go_wp2
  go_ret
  exact ⟨rfl, BB.out⟩
end Go.Proofs.YtbllanmhbfnagaaDoor
namespace Go.Proofs.YtbllanmhbfnagaaDoor
open Go.RowKit Go.Sort
theorem capF_pow {q : Nat} (hq : 1 ≤ q) : ∀ i, q ^ i ≤ 2500 → capF q i = q ^ i
  | 0, _ => rfl
  | i + 1, h => by
    have h1 : q ^ i ≤ q ^ (i + 1) := Nat.pow_le_pow_right hq (Nat.le_succ i)
    have ih := capF_pow hq i (by omega)
    rw [capF, ih, if_pos (by omega), Nat.pow_succ]
set_option maxHeartbeats 8000000 in
set_option maxRecDepth 100000 in
theorem sol_main (q0 : Int) (p : Nat) (a1 a2 : Option Addr) (n c1 c2 : Nat) (L : List (List Int)) (bl : List Int) (w : World) (hT : Tab w) (hR : ArgR w a1 n L) (hI : ArgI w a2 n bl) (q00 : 0 ≤ q0) (q01 : q0 ≤ 255) (hp : q0.tmod 14 = (p : Int)) (hp14 : p < 14) (h0 : 0 < n) (hn : n ≤ 4) (hv : primeB (p : Int) = true)
    (C : Nat) (hC : (L.getD 0 []).length = C) (hc : 1 ≤ C ∧ C ≤ 5) (hs : shB L C n = true) (u : Nat) (hu : capF p C = u) (hu2 : u ≤ 2500) :
    Calls Tryd.prog 14 #[.int .u8 q0, .slice a1 n c1, .slice a2 n c2] w fun e w' => e = .returned (.bool true) ∧ Below w.heap.size w w' := by
  have HT := mkHid hT
  have HR := mkHid hR
  have HI := mkHid hI
  have HL := mkHid hR.len
  have HBL := mkHid hI.len
  have HV := mkHid hv
  have HPM := mkHid (p13 hp14 hv)
  have HS := mkHid hs
  have HW : Hid (∀ i, i < n → (L.getD i []).length = C) := mkHid (shB_iff.1 hs)
  have HC := mkHid hC
  have HU := mkHid hu
  have HUP : Hid (u = p ^ C) := mkHid (by rw [← hu]; exact capF_le p C (by omega))
  have hp2 : 2 ≤ p := (p13_bd HPM.out).1
  have HBIG : Hid (∀ i, (L.getD i []).length ≤ 1000000) := mkHid (fun i => by
    rcases Nat.lt_or_ge i n with h | h
    · rw [HW.out i h]; omega
    · rw [List.getD, List.getElem?_eq_none (by rw [← HL.out]; exact h)]; exact Nat.zero_le _)
  have hsf := solutions_fact HPM.out (L := L) (bl := bl) (C := C) hC (fun i hi => HW.out i (by rw [HL.out]; exact hi)) (by omega) (by rw [← HL.out]; omega) (by rw [← HBL.out, ← HL.out])
  obtain ⟨r, hr1, hr2, hr3, hr4⟩ := hsf
  rw [← HL.out] at hr3 hr4
  rw [← HUP.out] at hr3
  have HR1 := mkHid hr1
  have HR3 := mkHid hr3
  have HR4 := mkHid hr4
  have cvq : IntKind.i64.wrap q0 = q0 := IntWalk.i64_in _ (by omega)
  have n0 : ((n : Int) == 0) = false := by rw [beq_eq_false_iff_ne]; omega
  have n1 : ¬ (n = 0) := by omega
  have n2 : decide (n = 0) = false := decide_eq_false n1
  have d1 : decide ((4 : Int) < n) = false := decide_eq_false (by omega)
  have e1 : ((n : Int) == (n : Int)) = true := by simp
  have e2 : ((n : Int) != (n : Int)) = false := by simp
  have u1 : decide ((2500 : Int) < u) = false := decide_eq_false (by omega)
  clear hT hR hI hv hs hC hu hr1 hr3 hr4
  go_enter Tryd.func14, Tryd.ntmps14
  go_wp2_with fail
  refine (saneL_any _ HT.out).mono ?_
  rintro e w1 ⟨rfl, b1⟩
  have B1 := mkHid b1
  have R1 := mkHid (HR.out.below b1)
  have I1 := mkHid (HI.out.below b1)
  clear b1
  go_wp2_with fail
  refine (prime_any (p : Int) _ (HT.out.step B1.out)).mono ?_
  rintro e w2 ⟨rfl, b2⟩
  have B2 := mkHid (B1.out.trans (b2.mono B1.out.size))
  have R2 := mkHid (R1.out.below b2)
  have I2 := mkHid (I1.out.below b2)
  rw [HV.out]
  clear b2 R1 I1 B1 HR HI
  obtain ⟨g, o, rr, k, c, rfl, x1, hk, -⟩ := R2.out.first h0
  obtain rfl : k = C := by rw [hk, HC.out]
  have nn : (0 : Int) < n := by omega
  have k6 : decide ((k : Int) < 1) = false := decide_eq_false (by omega)
  have k7 : decide ((5 : Int) < k) = false := decide_eq_false (by omega)
  have KP := mkHid (fun W : World => lpower_any p k W (by omega) (by omega))
  rw [HU.out] at KP
  clear hk
  go_wp2_with fail
  have KS := shaped_any (some ⟨g, o, none⟩) n c1 k L w2 hn R2.out
  rw [HS.out] at KS
  refine KS.mono ?_
  rintro e w3 ⟨rfl, rfl⟩
  clear KS
  go_wp2_with fail
  refine (KP.out w2).mono ?_
  rintro e w3 ⟨rfl, rfl⟩
  go_wp2_with fail
  clear cvq n0 n1 n2 d1 e1 e2 u1 k6 k7 x1 HS
  refine (lreduced_any p a2 n c2 bl w2 (by omega) I2.out).mono ?_
  rintro e w3 ⟨aw, cw, rfl, iw, b3⟩
  have W3 := mkHid iw
  have R3 := mkHid (R2.out.below b3)
  have I3 := mkHid (I2.out.below b3)
  have B3 := mkHid (B2.out.trans (b3.mono B2.out.size))
  clear iw b3 R2 I2 B2
  obtain ⟨f, hf⟩ : ∃ f : Nat → Bool, (fun n' => decide (mvL (p : Int) L (pvI (digN p k n')) k = resL (p : Int) bl)) = f := ⟨_, rfl⟩
  rw [hf] at HR3
  have HF := mkHid (fun N => congrFun hf N)
  clear hf
  have hz : ((cntN 0 f : Nat) : Int) = 0 := rfl
  have HZ := mkHid hz
  clear hz
  as_aux_lemma =>
    go_wp2_with fail
    go_loopw [11, 12] (fun s c wr => ∃ N : Nat, s = .int .i64 (cntN N f : Nat) ∧ c = .int .i64 N ∧ N ≤ u ∧ Hid (Below w3.heap.size w3 wr)) (fun _ c _ => (u - intOf c).toNat)
    case atStart => exact ⟨0, by rw [HZ.out], rfl, by omega, mkHid (Below.refl _ _)⟩
    case round =>
      obtain ⟨N, rfl, rfl, hN, hb⟩ := hrel
      have e2 : IntKind.i64.wrap ((N : Int) + 1) = ((N + 1 : Nat) : Int) := IntWalk.i64_in _ (by omega)
      have hcl := cntN_le f N
      have hcs := mkHid (cntN_succ N f)
      obtain ⟨m, hm⟩ : ∃ m, cntN N f = m := ⟨_, rfl⟩
      have HM := mkHid hm
      rw [hm] at hcl hcs ⊢
      clear hm
      go_wp2_with fail
      refine (KP.out wr).mono ?_
      rintro e w' ⟨rfl, rfl⟩
      by_cases hlt : N < u
      · as_aux_lemma =>
        have nu : (N : Int) < u := by omega
        have nu2 : decide ((N : Int) < u) = true := decide_eq_true nu
        go_wp2_with fail
        refine (digits_any N p k wr (by omega) (by omega) (by omega) (by omega)).mono ?_
        rintro e w6 ⟨ac, cc, rfl, ic, b6⟩
        have IC := mkHid ic
        have B6 := mkHid (hb.out.trans (b6.mono hb.out.size))
        clear ic b6 hb
        go_wp2_with fail
        refine (product_mv p (some ⟨g, o, none⟩) ac n c1 k cc L (pvI (digN p k N)) w6 (by omega) (by omega) (R3.out.below B6.out) IC.out HW.out).mono ?_
        rintro e w7 ⟨ap, cp, rfl, ip, b7⟩
        have IP := mkHid ip
        have B7 := mkHid (B6.out.trans (b7.mono B6.out.size))
        clear ip b7 IC B6
        go_wp2_with fail
        refine (same_any _ _ _ _ _ _ _ _ _ (by omega) IP.out (W3.out.below B7.out)).mono ?_
        rintro e w8 ⟨rfl, b8⟩
        have B8 := mkHid (B7.out.trans (b8.mono B7.out.size))
        have hfN := HF.out N
        rw [hfN]
        clear b8 IP B7 hfN
        cases hfv : f N with
        | true =>
          rw [hfv] at hcs
          have hcs2 : Hid (cntN (N + 1) f = m + 1) := mkHid hcs.out
          have e4 : IntKind.i64.wrap ((m : Int) + 1) = ((m + 1 : Nat) : Int) := IntWalk.i64_in _ (by omega)
          clear hfv
          go_wp2_with fail
          go_roundw
          case rel => exact ⟨N + 1, by rw [hcs2.out]; rfl, rfl, by omega, B8⟩
          case measure => simp only [intOf]; omega
        | false =>
          rw [hfv] at hcs
          have hcs2 : Hid (cntN (N + 1) f = m) := mkHid hcs.out
          clear hfv
          go_wp2_with fail
          go_roundw
          case rel => exact ⟨N + 1, by rw [hcs2.out], rfl, by omega, B8⟩
          case measure => simp only [intOf]; omega
      · obtain rfl : u = N := by omega
        as_aux_lemma =>
          have nu2 : decide ((u : Int) < u) = false := decide_eq_false (by omega)
          rw [HM.out] at HR3
          have R9 := mkHid (R3.out.below hb.out)
          have I9 := mkHid (I3.out.below hb.out)
          have W9 := mkHid (W3.out.below hb.out)
          have B9 := mkHid (B3.out.trans (hb.out.mono B3.out.size))
          clear R3 I3 W3 hb HZ HF hcs HM
          have KR := mkHid (fun (W : World) (h1 : Tab W) (h2 : ArgR W (some ⟨g, o, none⟩) n L) => by
            have h := rank_any p (some ⟨g, o, none⟩) c1 L W h1 (by rw [← HL.out]; exact h2) (by rw [← HL.out]; omega) HBIG.out
            rw [HR1.out, ← HL.out] at h
            exact h)
          have KV := mkHid (fun (W : World) (h1 : Tab W) (h2 : ArgR W (some ⟨g, o, none⟩) n L) (h3 : ArgI W a2 n bl) => by
            have h := solve_any p (some ⟨g, o, none⟩) a2 c1 n c2 L bl W h1 (by rw [← HL.out]; exact h2) h3 (by rw [← HL.out]; omega) (by omega) HBIG.out
            rw [← HL.out] at h
            exact h)
          obtain ⟨so, hso⟩ : ∃ so, solOk (p : Int) L bl n = so := ⟨_, rfl⟩
          obtain ⟨sf, hsf⟩ : ∃ sf, solF (p : Int) L bl n = sf := ⟨_, rfl⟩
          rw [hso] at HR3 HR4 KV
          rw [hsf] at HR4 KV
          clear hso hsf
          go_wp2_with fail
          refine (KR.out wr (HT.out.step B9.out) R9.out).mono ?_
          rintro e w10 ⟨rfl, b10⟩
          have R10 := mkHid (R9.out.below b10)
          have I10 := mkHid (I9.out.below b10)
          have W10 := mkHid (W9.out.below b10)
          have B10 := mkHid (B9.out.trans (b10.mono B9.out.size))
          clear b10 R9 I9 W9 B9 nu2
          go_wp2_with fail
          refine (KV.out w10 (HT.out.step B10.out) R10.out I10.out).mono ?_
          rintro e w11 ⟨ax, cx, rfl, ix, b11⟩
          have X11 := mkHid ix
          have R11 := mkHid (R10.out.below b11)
          have W11 := mkHid (W10.out.below b11)
          have B11 := mkHid (B10.out.trans (b11.mono B10.out.size))
          clear b11 ix R10 I10 W10 B10 KV KR
          have r1 : decide ((r : Int) < 0) = false := decide_eq_false (by omega)
          have r2 : decide ((k : Int) < r) = false := decide_eq_false (by omega)
          cases so with
          | false =>
            have hm0 : m = 0 := HR3.out
            subst hm0
            go_wp2_with fail
            go_ret
            exact ⟨rfl, B11.out⟩
          | true =>
            have hm0 : Hid (m = p ^ (k - r)) := mkHid HR3.out
            have hpos : 0 < m := by rw [hm0.out]; exact Nat.pow_pos (by omega)
            have m1 : decide ((0 : Int) < m) = true := decide_eq_true (by omega)
            have m2 : (0 : Int) < m := by omega
            have hle : p ^ (k - r) ≤ 2500 := Nat.le_trans (Nat.pow_le_pow_right (by omega) (Nat.sub_le k r)) (by rw [← HUP.out]; exact hu2)
            have KQ := mkHid (fun W : World => lpower_any p (k - r) W (by omega) (by omega))
            rw [capF_pow (by omega) _ hle, ← hm0.out] at KQ
            have e5 : IntKind.i64.wrap ((k : Int) - (r : Int)) = ((k - r : Nat) : Int) := by rw [IntWalk.i64_in _ (by omega)]; omega
            have hsl : sf.length = k := (HR4.out rfl).1
            have hmv := mkHid (HR4.out rfl).2
            rw [hsl] at X11 ⊢
            have HSL := mkHid hsl
            have e6 : ((k : Int) == (k : Int)) = true := by simp
            have e7 : ((m : Int) == (m : Int)) = true := by simp
            clear hle hsl
            go_wp2_with fail
            refine (KQ.out w11).mono ?_
            rintro e w' ⟨rfl, rfl⟩
            go_wp2_with fail
            refine (product_mv p (some ⟨g, o, none⟩) ax n c1 k cx L sf w11 (by omega) (by omega) R11.out X11.out HW.out).mono ?_
            rintro e w12 ⟨ap, cp, rfl, ip, b12⟩
            have IP := mkHid ip
            have W12 := mkHid (W11.out.below b12)
            have B12 := mkHid (B11.out.trans (b12.mono B11.out.size))
            rw [hmv.out] at IP
            clear ip b12 R11 X11 W11 B11
            go_wp2_with fail
            refine (same_any _ _ _ _ _ _ _ _ _ (by omega) IP.out W12.out).mono ?_
            rintro e w13 ⟨rfl, b13⟩
            rw [decide_eq_true rfl]
            have B13 := mkHid (B12.out.trans (b13.mono B12.out.size))
            clear b13 IP W12 B12
            go_wp2_with fail
            go_ret
            exact ⟨rfl, B13.out⟩
theorem sol_walk (q0 : Int) (a1 a2 : Option Addr) (n c1 nb c2 : Nat) (L : List (List Int)) (bl : List Int) (w : World) (hT : Tab w) (hR : ArgR w a1 n L) (hI : ArgI w a2 nb bl) (q00 : 0 ≤ q0) (q01 : q0 ≤ 255) :
    Calls Tryd.prog 14 #[.int .u8 q0, .slice a1 n c1, .slice a2 nb c2] w fun e w' => e = .returned (.bool true) ∧ Below w.heap.size w w' := by
  obtain ⟨p, hp, hp14⟩ := u8_mod14 q0 q00
  by_cases h0 : n = 0
  · subst h0
    exact sol_none q0 p a1 a2 0 c1 nb c2 L w hT hR q00 q01 hp
  by_cases hn : n ≤ 4
  · by_cases hne : nb = n
    · subst hne
      cases hv : primeB (p : Int) with
      | false => exact sol_noprime q0 p a1 a2 nb c1 nb c2 L w hT hR q00 q01 hp (by omega) hn hv
      | true =>
        by_cases c0 : (L.getD 0 []).length = 0
        · exact sol_zero q0 p a1 a2 nb c1 nb c2 L w hT hR q00 q01 hp (by omega) hn hv c0
        by_cases c5 : 5 < (L.getD 0 []).length
        · exact sol_wide q0 p a1 a2 nb c1 nb c2 L w hT hR q00 q01 hp (by omega) hn hv c5
        cases hs : shB L (L.getD 0 []).length nb with
        | false => exact sol_unshaped q0 p a1 a2 nb c1 nb c2 L w hT hR q00 q01 hp (by omega) hn hv ⟨by omega, by omega⟩ hs
        | true =>
          by_cases hu : capF p (L.getD 0 []).length ≤ 2500
          · exact sol_main q0 p a1 a2 nb c1 c2 L bl w hT hR hI q00 q01 hp hp14 (by omega) hn hv _ rfl ⟨by omega, by omega⟩ hs _ rfl hu
          · exact sol_big q0 p a1 a2 nb c1 nb c2 L w hT hR q00 q01 hp (by omega) hn hv ⟨by omega, by omega⟩ hs (by omega) _ rfl (by omega)
    · exact sol_other q0 p a1 a2 n c1 nb c2 L w hT hR q00 q01 hp (by omega) hn hne
  · exact sol_many q0 p a1 a2 n c1 nb c2 L w hT hR q00 q01 hp (by omega)
end Go.Proofs.YtbllanmhbfnagaaDoor
