/- The reference's Kernel, whatever comes in (walks; printed by wip/tools/genrk2.py). -/
import Derived.Test.YtbllanmhbfnagaaDoorUL2
import Derived.Test.YtbllanmhbfnagaaDoorU30
set_option linter.unusedVariables false
set_option linter.unusedSimpArgs false
namespace Go.Proofs.YtbllanmhbfnagaaDoor
open Go.RowKit Go.Sort
set_option maxHeartbeats 4000000 in
set_option maxRecDepth 100000 in
theorem rk_noprime (q cols : Int) (a : Option Addr) (c : Nat) (L : List (List Int)) (n : Nat) (w : World) (hR : ArgR w a n L) (hl : n ≤ 1000000) (hbig : ∀ i, (L.getD i []).length ≤ 1000000) (hp : primeB q = false) :
    Calls Tryd.prog 58 #[.int .i64 q, .slice a n c, .int .i64 cols] w fun e w' => e = .returned (.tuple #[.slice none 0 0, .bool false]) ∧ Below w.heap.size w w' := by
  have HR := mkHid hR
  have HBIG := mkHid hbig
  clear hR hbig
  have HP := mkHid hp
  clear hp
  go_enter Tryd.func58, Tryd.ntmps58
  go_wp2_with fail
  refine (rprime_bb q w).mono ?_
  rintro e w1 ⟨rfl, b1⟩
  rw [HP.out]
  have B1 := mkHid b1
  have R1 := mkHid (HR.out.below b1)
  clear b1
  have BB := mkHid B1.out
  go_wp2
  go_ret2
  exact ⟨rfl, BB.out⟩
set_option maxHeartbeats 4000000 in
set_option maxRecDepth 100000 in
theorem rk_nomatrix (q cols : Int) (a : Option Addr) (c : Nat) (L : List (List Int)) (n : Nat) (w : World) (hR : ArgR w a n L) (hl : n ≤ 1000000) (hbig : ∀ i, (L.getD i []).length ≤ 1000000) (hp : primeB q = true) (hm : mtB L n = false) :
    Calls Tryd.prog 58 #[.int .i64 q, .slice a n c, .int .i64 cols] w fun e w' => e = .returned (.tuple #[.slice none 0 0, .bool false]) ∧ Below w.heap.size w w' := by
  have HR := mkHid hR
  have HBIG := mkHid hbig
  clear hR hbig
  have HP := mkHid hp
  clear hp
  have HM := mkHid hm
  clear hm
  go_enter Tryd.func58, Tryd.ntmps58
  go_wp2_with fail
  refine (rprime_bb q w).mono ?_
  rintro e w1 ⟨rfl, b1⟩
  rw [HP.out]
  have B1 := mkHid b1
  have R1 := mkHid (HR.out.below b1)
  clear b1
  go_wp2_with fail
  refine (rmatrix_any a n c L w1 hl R1.out HBIG.out).mono ?_
  rintro e w2 ⟨rfl, b2⟩
  rw [HM.out]
  have B2 := mkHid (B1.out.trans (b2.mono B1.out.size))
  have R2 := mkHid (R1.out.below b2)
  clear b2
  have BB := mkHid B2.out
  go_wp2
  go_ret2
  exact ⟨rfl, BB.out⟩
set_option maxHeartbeats 4000000 in
set_option maxRecDepth 100000 in
theorem rk_lo (q cols : Int) (a : Option Addr) (c : Nat) (L : List (List Int)) (n : Nat) (w : World) (hR : ArgR w a n L) (hl : n ≤ 1000000) (hbig : ∀ i, (L.getD i []).length ≤ 1000000) (hp : primeB q = true) (hm : mtB L n = true) (hc : cols < 0) :
    Calls Tryd.prog 58 #[.int .i64 q, .slice a n c, .int .i64 cols] w fun e w' => e = .returned (.tuple #[.slice none 0 0, .bool false]) ∧ Below w.heap.size w w' := by
  have HR := mkHid hR
  have HBIG := mkHid hbig
  clear hR hbig
  have HP := mkHid hp
  clear hp
  have HM := mkHid hm
  clear hm
  have d2 : decide (cols < 0) = true := decide_eq_true hc
  go_enter Tryd.func58, Tryd.ntmps58
  go_wp2_with fail
  refine (rprime_bb q w).mono ?_
  rintro e w1 ⟨rfl, b1⟩
  rw [HP.out]
  have B1 := mkHid b1
  have R1 := mkHid (HR.out.below b1)
  clear b1
  go_wp2_with fail
  refine (rmatrix_any a n c L w1 hl R1.out HBIG.out).mono ?_
  rintro e w2 ⟨rfl, b2⟩
  rw [HM.out]
  have B2 := mkHid (B1.out.trans (b2.mono B1.out.size))
  have R2 := mkHid (R1.out.below b2)
  clear b2
  have BB := mkHid B2.out
  go_wp2
  go_ret2
  exact ⟨rfl, BB.out⟩
set_option maxHeartbeats 4000000 in
set_option maxRecDepth 100000 in
theorem rk_hi (q cols : Int) (a : Option Addr) (c : Nat) (L : List (List Int)) (n : Nat) (w : World) (hR : ArgR w a n L) (hl : n ≤ 1000000) (hbig : ∀ i, (L.getD i []).length ≤ 1000000) (hp : primeB q = true) (hm : mtB L n = true) (hc : 64 < cols) :
    Calls Tryd.prog 58 #[.int .i64 q, .slice a n c, .int .i64 cols] w fun e w' => e = .returned (.tuple #[.slice none 0 0, .bool false]) ∧ Below w.heap.size w w' := by
  have HR := mkHid hR
  have HBIG := mkHid hbig
  clear hR hbig
  have HP := mkHid hp
  clear hp
  have HM := mkHid hm
  clear hm
  have d2 : decide (cols < 0) = false := decide_eq_false (by omega)
  have d2' : ¬ (cols < 0) := by omega
  have d3 : decide (64 < cols) = true := decide_eq_true hc
  go_enter Tryd.func58, Tryd.ntmps58
  go_wp2_with fail
  refine (rprime_bb q w).mono ?_
  rintro e w1 ⟨rfl, b1⟩
  rw [HP.out]
  have B1 := mkHid b1
  have R1 := mkHid (HR.out.below b1)
  clear b1
  go_wp2_with fail
  refine (rmatrix_any a n c L w1 hl R1.out HBIG.out).mono ?_
  rintro e w2 ⟨rfl, b2⟩
  rw [HM.out]
  have B2 := mkHid (B1.out.trans (b2.mono B1.out.size))
  have R2 := mkHid (R1.out.below b2)
  clear b2
  have BB := mkHid B2.out
  go_wp2
  go_ret2
  exact ⟨rfl, BB.out⟩
set_option maxHeartbeats 4000000 in
set_option maxRecDepth 100000 in
theorem rk_ne (q cols : Int) (a : Option Addr) (c : Nat) (L : List (List Int)) (n : Nat) (w : World) (hR : ArgR w a n L) (hl : n ≤ 1000000) (hbig : ∀ i, (L.getD i []).length ≤ 1000000) (hp : primeB q = true) (hm : mtB L n = true) (hc0 : 0 ≤ cols) (hc1 : cols ≤ 64) (h0 : 0 < n) (C : Nat) (hC : colsN L = C) (hne : (C : Int) ≠ cols) :
    Calls Tryd.prog 58 #[.int .i64 q, .slice a n c, .int .i64 cols] w fun e w' => e = .returned (.tuple #[.slice none 0 0, .bool false]) ∧ Below w.heap.size w w' := by
  have HR := mkHid hR
  have HBIG := mkHid hbig
  clear hR hbig
  have HP := mkHid hp
  clear hp
  have HM := mkHid hm
  clear hm
  have d2 : decide (cols < 0) = false := decide_eq_false (by omega)
  have d2' : ¬ (cols < 0) := by omega
  have d3 : decide (64 < cols) = false := decide_eq_false (by omega)
  have d3' : ¬ (64 < cols) := by omega
  have d1 : decide ((0 : Int) < n) = true := decide_eq_true (by omega)
  have d1' : (0 : Int) < n := by omega
  have d4 : ((C : Int) == cols) = false := by simpa using hne
  have d5 : ((C : Int) != cols) = true := by simpa using hne
  have d6 : decide ((C : Int) = cols) = false := decide_eq_false hne
  have d7 : ¬ ((C : Int) = cols) := hne
  have HC := mkHid hC
  have HNE := mkHid hne
  clear hne hC
  go_enter Tryd.func58, Tryd.ntmps58
  go_wp2_with fail
  refine (rprime_bb q w).mono ?_
  rintro e w1 ⟨rfl, b1⟩
  rw [HP.out]
  have B1 := mkHid b1
  have R1 := mkHid (HR.out.below b1)
  clear b1
  go_wp2_with fail
  refine (rmatrix_any a n c L w1 hl R1.out HBIG.out).mono ?_
  rintro e w2 ⟨rfl, b2⟩
  rw [HM.out]
  have B2 := mkHid (B1.out.trans (b2.mono B1.out.size))
  have R2 := mkHid (R1.out.below b2)
  clear b2
  go_wp2_with fail
  refine (rwidth_any a n c L w2 R2.out).mono ?_
  rintro e w' ⟨rfl, rfl⟩
  rw [HC.out]
  have BB := mkHid B2.out
  go_wp2
  go_ret2
  exact ⟨rfl, BB.out⟩
theorem rkernel_any (q cols : Int) (a : Option Addr) (c : Nat) (L : List (List Int)) (n : Nat) (hn : L.length = n) (w : World) (hR : ArgR w a n L) (hl : n ≤ 1000000) (hbig : ∀ i, (L.getD i []).length ≤ 1000000) :
    Calls Tryd.prog 58 #[.int .i64 q, .slice a n c, .int .i64 cols] w fun e w' => ∃ ao cap, e = .returned (.tuple #[.slice ao (kerF q L cols).length cap, .bool (kerOk q L cols)]) ∧ ArgR w' ao (kerF q L cols).length (kerF q L cols) ∧ Below w.heap.size w w' := by
  have hno : kerOk q L cols = false → (Calls Tryd.prog 58 #[.int .i64 q, .slice a n c, .int .i64 cols] w fun e w' => e = .returned (.tuple #[.slice none 0 0, .bool false]) ∧ Below w.heap.size w w') →
      Calls Tryd.prog 58 #[.int .i64 q, .slice a n c, .int .i64 cols] w fun e w' => ∃ ao cap, e = .returned (.tuple #[.slice ao (kerF q L cols).length cap, .bool (kerOk q L cols)]) ∧ ArgR w' ao (kerF q L cols).length (kerF q L cols) ∧ Below w.heap.size w w' := by
    intro hk hc
    refine hc.mono ?_
    rintro e w' ⟨rfl, h⟩
    have h2 : kerF q L cols = [] := by unfold kerF; rw [hk]; rfl
    rw [hk, h2]
    exact ⟨none, 0, rfl, ⟨rfl, fun h => absurd h (Nat.lt_irrefl 0)⟩, h⟩
  have hrm := rdB_mt q L L.length
  simp only [beq_self_eq_true, Bool.and_true] at hrm
  cases hp : primeB q with
  | false => exact hno (by unfold kerOk; rw [hrm, hp]; rfl) (rk_noprime q cols a c L n w hR hl hbig hp)
  | true =>
    cases hm : mtB L n with
    | false => exact hno (by unfold kerOk; rw [hrm, hn, hm]; simp) (rk_nomatrix q cols a c L n w hR hl hbig hp hm)
    | true =>
      by_cases hlo : cols < 0
      · exact hno (by unfold kerOk; rw [decide_eq_false (by omega : ¬ 0 ≤ cols)]; simp) (rk_lo q cols a c L n w hR hl hbig hp hm hlo)
      by_cases hhi : 64 < cols
      · exact hno (by unfold kerOk; rw [decide_eq_false (by omega : ¬ cols ≤ 64)]; simp) (rk_hi q cols a c L n w hR hl hbig hp hm hhi)
      have hrd : rdB q L L.length = true := by rw [hrm, hp, hn, hm]; rfl
      have d1 : decide (0 ≤ cols) = true := decide_eq_true (by omega)
      have d2 : decide (cols ≤ 64) = true := decide_eq_true (by omega)
      obtain ⟨C, rfl⟩ : ∃ C : Nat, cols = (C : Int) := ⟨cols.toNat, by omega⟩
      have hcase : (0 < n → colsN L = C) → Calls Tryd.prog 58 #[.int .i64 q, .slice a n c, .int .i64 C] w fun e w' => ∃ ao cap, e = .returned (.tuple #[.slice ao (kerF q L C).length cap, .bool (kerOk q L C)]) ∧ ArgR w' ao (kerF q L C).length (kerF q L C) ∧ Below w.heap.size w w' := by
        intro hcc
        have hk : kerOk q L C = true := by
          unfold kerOk
          rw [hrd, d1, d2]
          by_cases h0 : 0 < n
          · rw [hcc h0]; simp
          · rw [show L.length = 0 by omega]; rfl
        have hf : kerF q L C = kerL q C (redL q L (zeroR L)).2 (redL q L (zeroR L)).1 C := by unfold kerF; rw [hk, if_pos rfl]; rfl
        rw [hk, hf]
        have hrd2 : rdB q L n = true := by rw [← hn]; exact hrd
        by_cases h0 : 0 < n
        · exact rkernel_yes1 q a c L n C hn w hR hl hbig hrd2 (by omega) hcc h0
        · exact rkernel_yes0 q a c L n C hn w hR hl hbig hrd2 (by omega) hcc (by omega)
      by_cases h0 : 0 < n
      · by_cases he : colsN L = C
        · exact hcase (fun _ => he)
        · exact hno (by unfold kerOk; rw [show (L.length == 0) = false by rw [beq_eq_false_iff_ne]; omega, show (((colsN L : Nat) : Int) == (C : Int)) = false by rw [beq_eq_false_iff_ne]; omega]; simp) (rk_ne q C a c L n w hR hl hbig hp hm (by omega) (by omega) h0 (colsN L) rfl (by omega))
      · exact hcase (fun h => absurd h h0)
end Go.Proofs.YtbllanmhbfnagaaDoor
