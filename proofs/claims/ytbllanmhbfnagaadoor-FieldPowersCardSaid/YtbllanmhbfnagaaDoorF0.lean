/- Plain laws on numbers modulo n (no program in sight): the Lean functions that the walks speak of, and bounds. -/
set_option linter.unusedVariables false
set_option linter.unusedSimpArgs false
namespace Go.Proofs.YtbllanmhbfnagaaDoor

/-- n is a modulus. -/
def modB (n : Int) : Bool := decide (1 ≤ n) && decide (n < 2305843009213693952)
theorem modB_iff {n : Int} : modB n = true ↔ 1 ≤ n ∧ n < 2305843009213693952 := by simp [modB]
theorem modB_no {n : Int} : modB n = false ↔ n < 1 ∨ 2305843009213693952 ≤ n := by
  rw [← Bool.not_eq_true, modB_iff]; omega

def addI (n a b : Int) : Int := if modB n then (a + b) % n else 0
def subI (n a b : Int) : Int := if modB n then (a - b) % n else 0
def mulI (n a b : Int) : Int := if modB n then (a * b) % n else 0

theorem emod_bd (a n : Int) (h : 1 ≤ n) : 0 ≤ a % n ∧ a % n < n := ⟨Int.emod_nonneg _ (by omega), Int.emod_lt_of_pos _ (by omega)⟩
theorem addI_bd (n a b : Int) : 0 ≤ addI n a b ∧ addI n a b < 2305843009213693952 := by
  unfold addI; split
  · rename_i h; have := modB_iff.1 h; have := emod_bd (a + b) n (by omega); omega
  · omega
theorem subI_bd (n a b : Int) : 0 ≤ subI n a b ∧ subI n a b < 2305843009213693952 := by
  unfold subI; split
  · rename_i h; have := modB_iff.1 h; have := emod_bd (a - b) n (by omega); omega
  · omega
theorem mulI_bd (n a b : Int) : 0 ≤ mulI n a b ∧ mulI n a b < 2305843009213693952 := by
  unfold mulI; split
  · rename_i h; have := modB_iff.1 h; have := emod_bd (a * b) n (by omega); omega
  · omega

theorem tmod_bd (a n : Int) (h : 1 ≤ n) : -n < a.tmod n ∧ a.tmod n < n := by
  have h1 := Int.tmod_lt_of_pos a (show 0 < n by omega)
  have h2 := Int.lt_tmod_of_pos a (show 0 < n by omega)
  omega
theorem emod_of_tmod_neg (a n : Int) (h : 1 ≤ n) (hr : a.tmod n < 0) : a.tmod n + n = a % n := by
  have h0 := Int.tmod_add_mul_tdiv a n
  have h3 := tmod_bd a n h
  have : (a.tmod n + n) % n = a % n := by
    conv => rhs; rw [← h0]
    simp
  rw [← this, Int.emod_eq_of_lt (by omega) (by omega)]
theorem emod_of_tmod_nn (a n : Int) (h : 1 ≤ n) (hr : 0 ≤ a.tmod n) : a.tmod n = a % n := by
  have h0 := Int.tmod_add_mul_tdiv a n
  have h3 := tmod_bd a n h
  have : (a.tmod n) % n = a % n := by
    conv => rhs; rw [← h0]
    simp
  rw [← this, Int.emod_eq_of_lt (by omega) (by omega)]

/-! Division of a number of two words by a word (Knuth's algorithm D), in base B = 4294967296. -/
/-- What holds at the head of the loop that corrects a digit q with the remainder r. -/
structure KInv (y1 u Q q r : Int) : Prop where
  sum : q * y1 + r = u
  r0 : 0 ≤ r
  r1 : r < 4294967296
  lo : Q ≤ q
  hi : q ≤ 4294967297
theorem kn_mul (Y y1 y0 q : Int) (hY : Y = y1 * 4294967296 + y0) : q * Y = q * y1 * 4294967296 + q * y0 := by
  rw [hY, Int.mul_add, Int.mul_assoc]
theorem kn_le {Y N q : Int} (hY : 0 < Y) (h : q * Y ≤ N) : q ≤ N / Y := Int.le_ediv_of_mul_le hY h
theorem kn_lt {Y N q : Int} (hY : 0 < Y) (h : N < q * Y) : N / Y < q := Int.ediv_lt_of_lt_mul hY h
theorem kn_lt_B (Y u d : Int) (hY : 0 < Y) (hu : u < Y) (hd : d < 4294967296) : (u * 4294967296 + d) / Y < 4294967296 := by
  refine kn_lt hY ?_
  omega
theorem kn_exit {Y y1 y0 u d q r : Int} (hY0 : 0 < Y) (hY : Y = y1 * 4294967296 + y0) (h : KInv y1 u ((u * 4294967296 + d) / Y) q r)
    (ht : q * y0 ≤ 4294967296 * r + d) : q = (u * 4294967296 + d) / Y := by
  have e := kn_mul Y y1 y0 q hY
  have := kn_le hY0 (show q * Y ≤ u * 4294967296 + d by rw [e, ← h.sum, Int.add_mul]; omega)
  have := h.lo
  omega
theorem kn_step {Y y1 y0 u d q r : Int} (hY0 : 0 < Y) (hY : Y = y1 * 4294967296 + y0) (hu : u < Y) (hd : d < 4294967296) (h : KInv y1 u ((u * 4294967296 + d) / Y) q r)
    (ht : 4294967296 ≤ q ∨ 4294967296 * r + d < q * y0) : (u * 4294967296 + d) / Y ≤ q - 1 := by
  rcases ht with ht | ht
  · have := kn_lt_B Y u d hY0 hu hd; omega
  · have e := kn_mul Y y1 y0 q hY
    have := kn_lt hY0 (show u * 4294967296 + d < q * Y by rw [e, ← h.sum, Int.add_mul]; omega)
    omega
theorem kn_prod_bd (q y0 : Int) (h0 : 0 ≤ q) (h1 : q ≤ 4294967297) (h2 : 0 ≤ y0) (h3 : y0 < 4294967296) : 0 ≤ q * y0 ∧ q * y0 ≤ 18446744073709551615 := by
  refine ⟨Int.mul_nonneg h0 h2, ?_⟩
  have := Int.mul_le_mul h1 (show y0 ≤ 4294967295 by omega) h2 (by omega)
  omega
theorem kn_next {Y y1 y0 u d q r : Int} (hY0 : 0 < Y) (hY : Y = y1 * 4294967296 + y0) (hu : u < Y) (hd : d < 4294967296) (h1 : 0 ≤ y1) (h : KInv y1 u ((u * 4294967296 + d) / Y) q r)
    (ht : 4294967296 ≤ q ∨ 4294967296 * r + d < q * y0) (hr : r + y1 < 4294967296) : KInv y1 u ((u * 4294967296 + d) / Y) (q - 1) (r + y1) :=
  ⟨by have := h.sum; rw [Int.sub_mul]; omega, by have := h.r0; omega, hr, kn_step hY0 hY hu hd h ht, by have := h.hi; omega⟩
theorem kn_break {Y y1 y0 u d q r : Int} (hY0 : 0 < Y) (hu0 : 0 ≤ u) (hY : Y = y1 * 4294967296 + y0) (hu : u < Y) (hd0 : 0 ≤ d) (hd : d < 4294967296) (h3 : 0 ≤ y0) (h4 : y0 < 4294967296) (h : KInv y1 u ((u * 4294967296 + d) / Y) q r)
    (ht : 4294967296 ≤ q ∨ 4294967296 * r + d < q * y0) (hr : 4294967296 ≤ r + y1) : q - 1 = (u * 4294967296 + d) / Y := by
  have hs := kn_step hY0 hY hu hd h ht
  have e := kn_mul Y y1 y0 (q - 1) hY
  have hq := h.hi
  by_cases hp : 0 ≤ q - 1
  · have hb := Int.mul_le_mul (show q - 1 ≤ 4294967296 by omega) (show y0 ≤ 4294967295 by omega) h3 (by omega)
    have := kn_le hY0 (show (q - 1) * Y ≤ u * 4294967296 + d by
      have hsum := h.sum
      rw [e, ← hsum, Int.sub_mul q 1 y1]
      simp only [Int.add_mul, Int.sub_mul] at hb ⊢
      omega)
    omega
  · exfalso
    have : 0 ≤ (u * 4294967296 + d) / Y := by
      exact Int.ediv_nonneg (by omega) (by omega)
    omega
theorem kn_Q_bd {Y u d : Int} (hY0 : 0 < Y) (hu0 : 0 ≤ u) (hu : u < Y) (hd0 : 0 ≤ d) (hd : d < 4294967296) : 0 ≤ (u * 4294967296 + d) / Y ∧ (u * 4294967296 + d) / Y < 4294967296 :=
  ⟨Int.ediv_nonneg (by omega) (by omega), kn_lt_B Y u d hY0 hu hd⟩
/-- The head of the loop, at its start. -/
theorem kn_start {Y y1 y0 u d : Int} (hY : Y = y1 * 4294967296 + y0) (h1 : 2147483648 ≤ y1) (h2 : y1 < 4294967296) (h3 : 0 ≤ y0) (h4 : y0 < 4294967296) (hu0 : 0 ≤ u) (hu : u < Y) (hd0 : 0 ≤ d) (hd : d < 4294967296) :
    KInv y1 u ((u * 4294967296 + d) / Y) (u / y1) (u % y1) := by
  have e := Int.ediv_mul_add_emod u y1
  have hr := emod_bd u y1 (by omega)
  refine ⟨e, hr.1, by omega, ?_, ?_⟩
  · have := kn_lt (N := u * 4294967296 + d) (Y := Y) (q := u / y1 + 1) (by omega) (by
      rw [kn_mul Y y1 y0 _ hY, Int.add_mul]
      have h0 : 0 ≤ (u / y1 + 1) * y0 := Int.mul_nonneg (by have := Int.ediv_nonneg (a := u) (b := y1) (by omega) (by omega); omega) h3
      generalize u / y1 * y1 = P at *
      omega)
    omega
  · have := kn_lt (N := u) (Y := y1) (q := 4294967298) (by omega) (by omega)
    omega
theorem kn_pows {m s : Nat} (h : m + s = 63) : (2 : Int) ^ m * 2 ^ s = 9223372036854775808 ∧ (2 : Int) ^ s * 2 ^ (m + 1) = 18446744073709551616 ∧ (1 : Int) ≤ 2 ^ s ∧ (1 : Int) ≤ 2 ^ (m + 1) := by
  refine ⟨?_, ?_, ?_, ?_⟩
  · rw [← Int.pow_add, h]; decide
  · rw [← Int.pow_add, show s + (m + 1) = 64 by omega]; decide
  · have := Int.pow_pos (n := (2 : Int)) (m := s) (by omega); omega
  · have := Int.pow_pos (n := (2 : Int)) (m := m + 1) (by omega); omega
/-- What the shift by s bits makes of the numbers (E = 2^s, F = 2^(64-s)). -/
theorem kn_shift {hi lo y E F : Int} (hEF : E * F = 18446744073709551616) (hE : 1 ≤ E) (hF : 1 ≤ F) (h0 : 0 ≤ hi) (h1 : hi < y) (h3 : 0 ≤ lo) (h4 : lo < 18446744073709551616) :
    0 ≤ hi * E + lo / F ∧ hi * E + lo / F < y * E ∧ 0 ≤ lo / F ∧ lo / F < E ∧ 0 ≤ (lo % F) * E ∧ (lo % F) * E < 18446744073709551616 ∧ lo * E = (lo / F) * 18446744073709551616 + (lo % F) * E
      ∧ (hi * E + lo / F) * 18446744073709551616 + (lo % F) * E = (hi * 18446744073709551616 + lo) * E := by
  have e := Int.ediv_mul_add_emod lo F
  have hr := emod_bd lo F hF
  have hq : lo / F < E := Int.ediv_lt_of_lt_mul (by omega) (by rw [hEF]; omega)
  have hq0 : 0 ≤ lo / F := Int.ediv_nonneg h3 (by omega)
  have h5 : 0 ≤ hi * E := Int.mul_nonneg h0 (by omega)
  have h6 : (hi + 1) * E ≤ y * E := Int.mul_le_mul_of_nonneg_right (by omega) (by omega)
  have h7 : 0 ≤ (lo % F) * E := Int.mul_nonneg hr.1 (by omega)
  have h8 : (lo % F + 1) * E ≤ F * E := Int.mul_le_mul_of_nonneg_right (by omega) (by omega)
  have h9 : lo * E = (lo / F) * 18446744073709551616 + (lo % F) * E := by
    conv => lhs; rw [← e]
    rw [Int.add_mul, Int.mul_assoc, Int.mul_comm F E, hEF]
  rw [Int.add_mul] at h6 h8
  rw [Int.mul_comm F E, hEF] at h8
  refine ⟨by omega, by omega, hq0, hq, h7, by omega, h9, ?_⟩
  rw [Int.add_mul, Int.add_mul, h9, Int.mul_assoc, Int.mul_assoc, Int.mul_comm E]
  omega
/-- The two digits and the remainder of the shifted numbers are those of the numbers. -/
theorem kn_final {U y E u L d1 d0 Y q1 q0 v rr : Int} (hE : 1 ≤ E) (hy : 1 ≤ y) (hY : Y = y * E) (hU : u * 18446744073709551616 + L = U * E) (hL : L = d1 * 4294967296 + d0)
    (h1 : (u * 4294967296 + d1) / Y = q1) (h2 : (u * 4294967296 + d1) % Y = v) (h3 : (v * 4294967296 + d0) / Y = q0) (h4 : (v * 4294967296 + d0) % Y = rr) :
    q1 * 4294967296 + q0 = U / y ∧ rr / E = U % y := by
  have hY0 : 0 < Y := by rw [hY]; exact Int.mul_pos (by omega) (by omega)
  have e1 := Int.ediv_mul_add_emod (u * 4294967296 + d1) Y
  have e2 := Int.ediv_mul_add_emod (v * 4294967296 + d0) Y
  have hr := emod_bd (v * 4294967296 + d0) Y (by omega)
  rw [h1, h2] at e1
  rw [h3, h4] at e2
  rw [h4] at hr
  have key : U * E = (y * (q1 * 4294967296 + q0)) * E + rr := by
    have a1 : (y * (q1 * 4294967296 + q0)) * E = q1 * Y * 4294967296 + q0 * Y := by grind
    rw [a1, ← hU, hL]
    omega
  have hz : rr = (U - y * (q1 * 4294967296 + q0)) * E := by rw [Int.sub_mul]; omega
  have hz1 : rr / E = U - y * (q1 * 4294967296 + q0) := by rw [hz, Int.mul_ediv_cancel _ (by omega)]
  have hlt : rr / E < y := Int.ediv_lt_of_lt_mul (by omega) (by rw [← hY]; exact hr.2)
  have hnn : 0 ≤ rr / E := Int.ediv_nonneg hr.1 (by omega)
  have := (Int.ediv_emod_unique (a := U) (b := y) (r := rr / E) (q := q1 * 4294967296 + q0) (by omega)).2 ⟨by rw [hz1]; omega, hnn, hlt⟩
  exact ⟨this.1.symm, this.2.symm⟩
end Go.Proofs.YtbllanmhbfnagaaDoor
