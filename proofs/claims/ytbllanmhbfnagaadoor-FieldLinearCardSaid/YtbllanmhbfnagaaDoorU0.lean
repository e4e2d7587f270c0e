/- Plain laws on numbers modulo n (no program in sight): the Lean functions that the walks speak of, and bounds. Plain laws: powers and inverses modulo n (no program in sight). Plain laws: SHA-256 on natural numbers (no program in sight). Plain laws: the padding and the digest of SHA-256 (no program in sight). Plain laws: the ring modulo n (no program in sight). Plain laws: powers with integers as exponents (no program in sight). Plain laws: elements of order Q modulo P (no program in sight). Plain laws: the reduced row echelon form (no program in sight). Plain laws: sums over vectors of residues (no program in sight). -/

set_option linter.unusedVariables false
set_option linter.unusedSimpArgs false
namespace Go.Proofs.YtbllanmhbfnagaaDoor

/-- n is a modulus. -/
def modB (n : Int) : Bool := decide (1 ≤ n) && decide (n < 2305843009213693952)
theorem modB_iff {n : Int} : modB n = true ↔ 1 ≤ n ∧ n < 2305843009213693952 := by simp [modB]
theorem modB_no {n : Int} : modB n = false ↔ n < 1 ∨ 2305843009213693952 ≤ n := by
  rw [← Bool.not_eq_true, modB_iff]; omega

def addI (n a b : Int) : Int := if modB n then (a + b) % n else 0
def subI (n a b : Int) : Int := if modB n then (a - b) % n else 0
def mulI (n a b : Int) : Int := if modB n then (a * b) % n else 0

theorem emod_bd (a n : Int) (h : 1 ≤ n) : 0 ≤ a % n ∧ a % n < n := ⟨Int.emod_nonneg _ (by omega), Int.emod_lt_of_pos _ (by omega)⟩
theorem addI_bd (n a b : Int) : 0 ≤ addI n a b ∧ addI n a b < 2305843009213693952 := by
  unfold addI; split
  · rename_i h; have := modB_iff.1 h; have := emod_bd (a + b) n (by omega); omega
  · omega
theorem subI_bd (n a b : Int) : 0 ≤ subI n a b ∧ subI n a b < 2305843009213693952 := by
  unfold subI; split
  · rename_i h; have := modB_iff.1 h; have := emod_bd (a - b) n (by omega); omega
  · omega
theorem mulI_bd (n a b : Int) : 0 ≤ mulI n a b ∧ mulI n a b < 2305843009213693952 := by
  unfold mulI; split
  · rename_i h; have := modB_iff.1 h; have := emod_bd (a * b) n (by omega); omega
  · omega

theorem tmod_bd (a n : Int) (h : 1 ≤ n) : -n < a.tmod n ∧ a.tmod n < n := by
  have h1 := Int.tmod_lt_of_pos a (show 0 < n by omega)
  have h2 := Int.lt_tmod_of_pos a (show 0 < n by omega)
  omega
theorem emod_of_tmod_neg (a n : Int) (h : 1 ≤ n) (hr : a.tmod n < 0) : a.tmod n + n = a % n := by
  have h0 := Int.tmod_add_mul_tdiv a n
  have h3 := tmod_bd a n h
  have : (a.tmod n + n) % n = a % n := by
    conv => rhs; rw [← h0]
    simp
  rw [← this, Int.emod_eq_of_lt (by omega) (by omega)]
theorem emod_of_tmod_nn (a n : Int) (h : 1 ≤ n) (hr : 0 ≤ a.tmod n) : a.tmod n = a % n := by
  have h0 := Int.tmod_add_mul_tdiv a n
  have h3 := tmod_bd a n h
  have : (a.tmod n) % n = a % n := by
    conv => rhs; rw [← h0]
    simp
  rw [← this, Int.emod_eq_of_lt (by omega) (by omega)]

/-! Division of a number of two words by a word (Knuth's algorithm D), in base B = 4294967296. -/
/-- What holds at the head of the loop that corrects a digit q with the remainder r. -/
structure KInv (y1 u Q q r : Int) : Prop where
  sum : q * y1 + r = u
  r0 : 0 ≤ r
  r1 : r < 4294967296
  lo : Q ≤ q
  hi : q ≤ 4294967297
theorem kn_mul (Y y1 y0 q : Int) (hY : Y = y1 * 4294967296 + y0) : q * Y = q * y1 * 4294967296 + q * y0 := by
  rw [hY, Int.mul_add, Int.mul_assoc]
theorem kn_le {Y N q : Int} (hY : 0 < Y) (h : q * Y ≤ N) : q ≤ N / Y := Int.le_ediv_of_mul_le hY h
theorem kn_lt {Y N q : Int} (hY : 0 < Y) (h : N < q * Y) : N / Y < q := Int.ediv_lt_of_lt_mul hY h
theorem kn_lt_B (Y u d : Int) (hY : 0 < Y) (hu : u < Y) (hd : d < 4294967296) : (u * 4294967296 + d) / Y < 4294967296 := by
  refine kn_lt hY ?_
  omega
theorem kn_exit {Y y1 y0 u d q r : Int} (hY0 : 0 < Y) (hY : Y = y1 * 4294967296 + y0) (h : KInv y1 u ((u * 4294967296 + d) / Y) q r)
    (ht : q * y0 ≤ 4294967296 * r + d) : q = (u * 4294967296 + d) / Y := by
  have e := kn_mul Y y1 y0 q hY
  have := kn_le hY0 (show q * Y ≤ u * 4294967296 + d by rw [e, ← h.sum, Int.add_mul]; omega)
  have := h.lo
  omega
theorem kn_step {Y y1 y0 u d q r : Int} (hY0 : 0 < Y) (hY : Y = y1 * 4294967296 + y0) (hu : u < Y) (hd : d < 4294967296) (h : KInv y1 u ((u * 4294967296 + d) / Y) q r)
    (ht : 4294967296 ≤ q ∨ 4294967296 * r + d < q * y0) : (u * 4294967296 + d) / Y ≤ q - 1 := by
  rcases ht with ht | ht
  · have := kn_lt_B Y u d hY0 hu hd; omega
  · have e := kn_mul Y y1 y0 q hY
    have := kn_lt hY0 (show u * 4294967296 + d < q * Y by rw [e, ← h.sum, Int.add_mul]; omega)
    omega
theorem kn_prod_bd (q y0 : Int) (h0 : 0 ≤ q) (h1 : q ≤ 4294967297) (h2 : 0 ≤ y0) (h3 : y0 < 4294967296) : 0 ≤ q * y0 ∧ q * y0 ≤ 18446744073709551615 := by
  refine ⟨Int.mul_nonneg h0 h2, ?_⟩
  have := Int.mul_le_mul h1 (show y0 ≤ 4294967295 by omega) h2 (by omega)
  omega
theorem kn_next {Y y1 y0 u d q r : Int} (hY0 : 0 < Y) (hY : Y = y1 * 4294967296 + y0) (hu : u < Y) (hd : d < 4294967296) (h1 : 0 ≤ y1) (h : KInv y1 u ((u * 4294967296 + d) / Y) q r)
    (ht : 4294967296 ≤ q ∨ 4294967296 * r + d < q * y0) (hr : r + y1 < 4294967296) : KInv y1 u ((u * 4294967296 + d) / Y) (q - 1) (r + y1) :=
  ⟨by have := h.sum; rw [Int.sub_mul]; omega, by have := h.r0; omega, hr, kn_step hY0 hY hu hd h ht, by have := h.hi; omega⟩
theorem kn_break {Y y1 y0 u d q r : Int} (hY0 : 0 < Y) (hu0 : 0 ≤ u) (hY : Y = y1 * 4294967296 + y0) (hu : u < Y) (hd0 : 0 ≤ d) (hd : d < 4294967296) (h3 : 0 ≤ y0) (h4 : y0 < 4294967296) (h : KInv y1 u ((u * 4294967296 + d) / Y) q r)
    (ht : 4294967296 ≤ q ∨ 4294967296 * r + d < q * y0) (hr : 4294967296 ≤ r + y1) : q - 1 = (u * 4294967296 + d) / Y := by
  have hs := kn_step hY0 hY hu hd h ht
  have e := kn_mul Y y1 y0 (q - 1) hY
  have hq := h.hi
  by_cases hp : 0 ≤ q - 1
  · have hb := Int.mul_le_mul (show q - 1 ≤ 4294967296 by omega) (show y0 ≤ 4294967295 by omega) h3 (by omega)
    have := kn_le hY0 (show (q - 1) * Y ≤ u * 4294967296 + d by
      have hsum := h.sum
      rw [e, ← hsum, Int.sub_mul q 1 y1]
      simp only [Int.add_mul, Int.sub_mul] at hb ⊢
      omega)
    omega
  · exfalso
    have : 0 ≤ (u * 4294967296 + d) / Y := by
      exact Int.ediv_nonneg (by omega) (by omega)
    omega
theorem kn_Q_bd {Y u d : Int} (hY0 : 0 < Y) (hu0 : 0 ≤ u) (hu : u < Y) (hd0 : 0 ≤ d) (hd : d < 4294967296) : 0 ≤ (u * 4294967296 + d) / Y ∧ (u * 4294967296 + d) / Y < 4294967296 :=
  ⟨Int.ediv_nonneg (by omega) (by omega), kn_lt_B Y u d hY0 hu hd⟩
/-- The head of the loop, at its start. -/
theorem kn_start {Y y1 y0 u d : Int} (hY : Y = y1 * 4294967296 + y0) (h1 : 2147483648 ≤ y1) (h2 : y1 < 4294967296) (h3 : 0 ≤ y0) (h4 : y0 < 4294967296) (hu0 : 0 ≤ u) (hu : u < Y) (hd0 : 0 ≤ d) (hd : d < 4294967296) :
    KInv y1 u ((u * 4294967296 + d) / Y) (u / y1) (u % y1) := by
  have e := Int.ediv_mul_add_emod u y1
  have hr := emod_bd u y1 (by omega)
  refine ⟨e, hr.1, by omega, ?_, ?_⟩
  · have := kn_lt (N := u * 4294967296 + d) (Y := Y) (q := u / y1 + 1) (by omega) (by
      rw [kn_mul Y y1 y0 _ hY, Int.add_mul]
      have h0 : 0 ≤ (u / y1 + 1) * y0 := Int.mul_nonneg (by have := Int.ediv_nonneg (a := u) (b := y1) (by omega) (by omega); omega) h3
      generalize u / y1 * y1 = P at *
      omega)
    omega
  · have := kn_lt (N := u) (Y := y1) (q := 4294967298) (by omega) (by omega)
    omega
theorem kn_pows {m s : Nat} (h : m + s = 63) : (2 : Int) ^ m * 2 ^ s = 9223372036854775808 ∧ (2 : Int) ^ s * 2 ^ (m + 1) = 18446744073709551616 ∧ (1 : Int) ≤ 2 ^ s ∧ (1 : Int) ≤ 2 ^ (m + 1) := by
  refine ⟨?_, ?_, ?_, ?_⟩
  · rw [← Int.pow_add, h]; decide
  · rw [← Int.pow_add, show s + (m + 1) = 64 by omega]; decide
  · have := Int.pow_pos (n := (2 : Int)) (m := s) (by omega); omega
  · have := Int.pow_pos (n := (2 : Int)) (m := m + 1) (by omega); omega
/-- What the shift by s bits makes of the numbers (E = 2^s, F = 2^(64-s)). -/
theorem kn_shift {hi lo y E F : Int} (hEF : E * F = 18446744073709551616) (hE : 1 ≤ E) (hF : 1 ≤ F) (h0 : 0 ≤ hi) (h1 : hi < y) (h3 : 0 ≤ lo) (h4 : lo < 18446744073709551616) :
    0 ≤ hi * E + lo / F ∧ hi * E + lo / F < y * E ∧ 0 ≤ lo / F ∧ lo / F < E ∧ 0 ≤ (lo % F) * E ∧ (lo % F) * E < 18446744073709551616 ∧ lo * E = (lo / F) * 18446744073709551616 + (lo % F) * E
      ∧ (hi * E + lo / F) * 18446744073709551616 + (lo % F) * E = (hi * 18446744073709551616 + lo) * E := by
  have e := Int.ediv_mul_add_emod lo F
  have hr := emod_bd lo F hF
  have hq : lo / F < E := Int.ediv_lt_of_lt_mul (by omega) (by rw [hEF]; omega)
  have hq0 : 0 ≤ lo / F := Int.ediv_nonneg h3 (by omega)
  have h5 : 0 ≤ hi * E := Int.mul_nonneg h0 (by omega)
  have h6 : (hi + 1) * E ≤ y * E := Int.mul_le_mul_of_nonneg_right (by omega) (by omega)
  have h7 : 0 ≤ (lo % F) * E := Int.mul_nonneg hr.1 (by omega)
  have h8 : (lo % F + 1) * E ≤ F * E := Int.mul_le_mul_of_nonneg_right (by omega) (by omega)
  have h9 : lo * E = (lo / F) * 18446744073709551616 + (lo % F) * E := by
    conv => lhs; rw [← e]
    rw [Int.add_mul, Int.mul_assoc, Int.mul_comm F E, hEF]
  rw [Int.add_mul] at h6 h8
  rw [Int.mul_comm F E, hEF] at h8
  refine ⟨by omega, by omega, hq0, hq, h7, by omega, h9, ?_⟩
  rw [Int.add_mul, Int.add_mul, h9, Int.mul_assoc, Int.mul_assoc, Int.mul_comm E]
  omega
/-- The two digits and the remainder of the shifted numbers are those of the numbers. -/
theorem kn_final {U y E u L d1 d0 Y q1 q0 v rr : Int} (hE : 1 ≤ E) (hy : 1 ≤ y) (hY : Y = y * E) (hU : u * 18446744073709551616 + L = U * E) (hL : L = d1 * 4294967296 + d0)
    (h1 : (u * 4294967296 + d1) / Y = q1) (h2 : (u * 4294967296 + d1) % Y = v) (h3 : (v * 4294967296 + d0) / Y = q0) (h4 : (v * 4294967296 + d0) % Y = rr) :
    q1 * 4294967296 + q0 = U / y ∧ rr / E = U % y := by
  have hY0 : 0 < Y := by rw [hY]; exact Int.mul_pos (by omega) (by omega)
  have e1 := Int.ediv_mul_add_emod (u * 4294967296 + d1) Y
  have e2 := Int.ediv_mul_add_emod (v * 4294967296 + d0) Y
  have hr := emod_bd (v * 4294967296 + d0) Y (by omega)
  rw [h1, h2] at e1
  rw [h3, h4] at e2
  rw [h4] at hr
  have key : U * E = (y * (q1 * 4294967296 + q0)) * E + rr := by
    have a1 : (y * (q1 * 4294967296 + q0)) * E = q1 * Y * 4294967296 + q0 * Y := by grind
    rw [a1, ← hU, hL]
    omega
  have hz : rr = (U - y * (q1 * 4294967296 + q0)) * E := by rw [Int.sub_mul]; omega
  have hz1 : rr / E = U - y * (q1 * 4294967296 + q0) := by rw [hz, Int.mul_ediv_cancel _ (by omega)]
  have hlt : rr / E < y := Int.ediv_lt_of_lt_mul (by omega) (by rw [← hY]; exact hr.2)
  have hnn : 0 ≤ rr / E := Int.ediv_nonneg hr.1 (by omega)
  have := (Int.ediv_emod_unique (a := U) (b := y) (r := rr / E) (q := q1 * 4294967296 + q0) (by omega)).2 ⟨by rw [hz1]; omega, hnn, hlt⟩
  exact ⟨this.1.symm, this.2.symm⟩
end Go.Proofs.YtbllanmhbfnagaaDoor
namespace Go.Proofs.YtbllanmhbfnagaaDoor

theorem mul_mod_l (a b n : Int) : (a % n) * b % n = a * b % n := by rw [Int.mul_emod, Int.emod_emod_of_dvd _ (Int.dvd_refl n), ← Int.mul_emod]
theorem mul_mod_r (a b n : Int) : a * (b % n) % n = a * b % n := by rw [Int.mul_emod, Int.emod_emod_of_dvd _ (Int.dvd_refl n), ← Int.mul_emod]
theorem pow_mod (a n : Int) (k : Nat) : (a % n) ^ k % n = a ^ k % n := by
  induction k with
  | zero => simp
  | succ k ih => rw [Int.pow_succ, Int.pow_succ, mul_mod_r, ← mul_mod_l, ih, mul_mod_l]

theorem sub_mod (a b n : Int) : (a % n + n - b % n) % n = (a - b) % n := by
  rw [show a % n + n - b % n = (a % n - b % n) + n by omega, Int.add_emod_right, ← Int.sub_emod]
theorem sub_mod' (a b n : Int) : (a % n + n - b) % n = (a - b) % n := by
  rw [← sub_mod a b, Int.sub_emod, Int.sub_emod (a % n + n) (b % n), Int.emod_emod_of_dvd _ (Int.dvd_refl n)]
theorem add_mod (a b n : Int) : (a % n + b % n) % n = (a + b) % n := by rw [← Int.add_emod]
/-- Multiplication two bits at a time: the next state. -/
theorem mul2_step (x y n j : Int) : (4 * (j * x % n) % n + 0 * x) % n = (4 * j + 0) * x % n := by
  rw [Int.zero_mul, Int.add_zero, Int.add_zero, Int.emod_emod_of_dvd _ (Int.dvd_refl n), mul_mod_r, Int.mul_assoc]
theorem mul2_add (x n j i o : Int) (h : o = (4 * j + i) * x % n) : (o + x) % n = (4 * j + (i + 1)) * x % n := by
  rw [h, Int.emod_add_emod]
  congr 1
  grind
theorem mul2_first (x n j : Int) : 4 * (j * x % n) % n = (4 * j + 0) * x % n := by
  rw [mul_mod_r, Int.add_zero, Int.mul_assoc]
theorem shr_four (y k : Int) (_hy : 0 ≤ y) (hk : 0 ≤ k) : y / 2 ^ k.toNat = 4 * (y / 2 ^ (k + 2).toNat) + y / 2 ^ k.toNat % 4 := by
  rw [show (k + 2).toNat = k.toNat + 2 by omega, Int.pow_add, ← Int.ediv_ediv_of_nonneg (Int.pow_nonneg (by omega))]
  omega
theorem shr_top (y : Int) (h0 : 0 ≤ y) (h1 : y < 2305843009213693952) : y / 2 ^ (60 + 2 : Int).toNat = 0 := by
  rw [show (60 + 2 : Int).toNat = 62 from rfl, show (2 : Int) ^ 62 = 4611686018427387904 by decide]
  omega
theorem sub_mod_r (a b n : Int) : (a - b % n) % n = (a - b) % n := by rw [Int.sub_emod, Int.emod_emod_of_dvd _ (Int.dvd_refl n), ← Int.sub_emod]
theorem mulI_of {n a b : Int} (h : modB n = true) : mulI n a b = a * b % n := by unfold mulI; rw [if_pos h]
theorem addI_of {n a b : Int} (h : modB n = true) : addI n a b = (a + b) % n := by unfold addI; rw [if_pos h]
theorem subI_of {n a b : Int} (h : modB n = true) : subI n a b = (a - b) % n := by unfold subI; rw [if_pos h]
/-- a to the power of k modulo n. -/
def powI (n a : Int) (k : Nat) : Int := a ^ k % n
theorem powI_mod (n a : Int) (k : Nat) : powI n (a % n) k = powI n a k := pow_mod a n k
theorem powI_bd {n : Int} (h : 1 ≤ n) (a : Int) (k : Nat) : 0 ≤ powI n a k ∧ powI n a k < n := emod_bd _ _ h

/-- The state of square and multiply: what is still to be multiplied makes the power. -/
structure PowInv (n A : Int) (B : Nat) (a b o : Int) : Prop where
  a0 : 0 ≤ a
  a1 : a < n
  b0 : 0 ≤ b
  b1 : b ≤ 18446744073709551615
  o0 : 0 ≤ o
  o1 : o < n
  val : o * a ^ b.toNat % n = powI n A B
theorem pow_half (a b : Int) (hb : 0 ≤ b) : a ^ b.toNat = (a * a) ^ (b / 2).toNat * a ^ (b % 2).toNat := by
  obtain ⟨k, rfl⟩ := Int.eq_ofNat_of_zero_le hb
  have e1 : ((k : Int) / 2).toNat = k / 2 := by omega
  have e2 : ((k : Int) % 2).toNat = k % 2 := by omega
  rw [e1, e2, Int.toNat_natCast]
  conv => lhs; rw [← Nat.div_add_mod k 2, Int.pow_add, Int.pow_mul]
  rw [show a ^ 2 = a * a by rw [Int.pow_succ, Int.pow_succ, Int.pow_zero, Int.one_mul]]
theorem PowInv.start {n A : Int} (hn : 1 ≤ n) (hA0 : 0 ≤ A) (hA1 : A < n) {b : Int} (hb0 : 0 ≤ b) (hb1 : b ≤ 18446744073709551615) : PowInv n A b.toNat A b (1 % n) :=
  ⟨hA0, hA1, hb0, hb1, (emod_bd 1 n hn).1, (emod_bd 1 n hn).2, by rw [mul_mod_l, Int.one_mul]; rfl⟩
theorem PowInv.odd {n A : Int} {B : Nat} {a b o : Int} (hn : 1 ≤ n) (h : PowInv n A B a b o) (hb : b % 2 = 1) : PowInv n A B (a * a % n) (b / 2) (o * a % n) :=
  ⟨(emod_bd _ n hn).1, (emod_bd _ n hn).2, by have := h.b0; omega, by have := h.b1; have := h.b0; omega, (emod_bd _ n hn).1, (emod_bd _ n hn).2, by
    rw [← h.val, pow_half a b h.b0, hb, mul_mod_l, ← mul_mod_r, pow_mod, mul_mod_r]
    congr 1
    rw [show (1 : Int).toNat = 1 from rfl, Int.pow_succ, Int.pow_zero, Int.one_mul]
    grind⟩
theorem PowInv.even {n A : Int} {B : Nat} {a b o : Int} (hn : 1 ≤ n) (h : PowInv n A B a b o) (hb : b % 2 = 0) : PowInv n A B (a * a % n) (b / 2) o :=
  ⟨(emod_bd _ n hn).1, (emod_bd _ n hn).2, by have := h.b0; omega, by have := h.b1; have := h.b0; omega, h.o0, h.o1, by
    rw [← h.val, pow_half a b h.b0, hb, ← mul_mod_r, pow_mod, mul_mod_r]
    congr 1
    rw [show (0 : Int).toNat = 0 from rfl, Int.pow_zero, Int.mul_one]⟩
theorem PowInv.done {n A : Int} {B : Nat} {a b o : Int} (h : PowInv n A B a b o) (hb : b ≤ 0) : o = powI n A B := by
  have hb' : b = 0 := by have := h.b0; omega
  have hv := h.val
  rw [hb', show (0 : Int).toNat = 0 from rfl, Int.pow_zero, Int.mul_one, Int.emod_eq_of_lt h.o0 h.o1] at hv
  exact hv

/-- The inverse of a modulo n: the only residue whose product with a is 1. -/
def invO (n a : Int) : Option Int := if modB n then ((List.range n.toNat).map Int.ofNat).find? (fun x => a * x % n == 1 % n) else none
def invB (n a : Int) : Bool := (invO n a).isSome
def invI (n a : Int) : Int := (invO n a).getD 0
theorem invO_of {n a x : Int} (hn : modB n = true) (h0 : 0 ≤ x) (h1 : x < n) (hx : a * x % n = 1 % n) : invO n a = some x := by
  unfold invO
  rw [if_pos hn]
  cases hf : ((List.range n.toNat).map Int.ofNat).find? (fun x => a * x % n == 1 % n) with
  | none =>
    have := List.find?_eq_none.1 hf x (by
      simp only [List.mem_map, List.mem_range]
      exact ⟨x.toNat, by omega, by simp only [Int.ofNat_eq_natCast]; omega⟩)
    simp [hx] at this
  | some y =>
    have hy := List.find?_some hf
    have hm := List.mem_of_find?_eq_some hf
    simp only [List.mem_map, List.mem_range] at hm
    obtain ⟨k, hk, rfl⟩ := hm
    simp only [beq_iff_eq, Int.ofNat_eq_natCast] at hy ⊢
    have key : x % n = (k : Int) % n := by
      have e1 : (a * (k : Int)) * x % n = x % n := by rw [← mul_mod_l, hy, mul_mod_l, Int.one_mul]
      have e2 : (a * (k : Int)) * x % n = (k : Int) % n := by
        rw [show a * (k : Int) * x = (a * x) * k by grind, ← mul_mod_l, hx, mul_mod_l, Int.one_mul]
      rw [← e1, e2]
    rw [Int.emod_eq_of_lt h0 h1, Int.emod_eq_of_lt (by omega) (by omega)] at key
    rw [key]
theorem invO_some {n a x : Int} (h : invO n a = some x) : modB n = true ∧ 0 ≤ x ∧ x < n ∧ a * x % n = 1 % n := by
  unfold invO at h
  split at h
  · rename_i hm
    have h1 := List.find?_some h
    have h2 := List.mem_of_find?_eq_some h
    simp only [List.mem_map, List.mem_range] at h2
    obtain ⟨k, hk, rfl⟩ := h2
    simp only [beq_iff_eq, Int.ofNat_eq_natCast] at h1 ⊢
    exact ⟨hm, by omega, by omega, h1⟩
  · cases h
theorem invO_none {n a : Int} (h : ∀ x, a * x % n ≠ 1 % n) : invO n a = none := by
  cases hf : invO n a with
  | none => rfl
  | some x => exact absurd (invO_some hf).2.2.2 (h x)
theorem invI_bd (n a : Int) : 0 ≤ invI n a ∧ invI n a < 2305843009213693952 := by
  unfold invI
  cases hf : invO n a with
  | none => simp
  | some x => have := invO_some hf; have := modB_iff.1 this.1; simp only [Option.getD_some]; omega

/-- The state of Euclid's algorithm. -/
structure InvInv (n A r s x y : Int) : Prop where
  r0 : 1 ≤ r
  r1 : r < 2305843009213693952
  s0 : 0 ≤ s
  s1 : s < 2305843009213693952
  x0 : 0 ≤ x
  x1 : x < 2305843009213693952
  y0 : 0 ≤ y
  y1 : y < 2305843009213693952
  xr : A * x % n = r % n
  ys : A * y % n = s % n
  dv : ∀ d, d ∣ r → d ∣ s → d ∣ n ∧ d ∣ A
theorem dvd_of_emod {d a n : Int} (h1 : d ∣ n) (h2 : d ∣ a % n) : d ∣ a := by
  rw [← Int.ediv_mul_add_emod a n]
  exact Int.dvd_add (Int.dvd_trans h1 (Int.dvd_mul_left _ _)) h2
theorem InvInv.start {n A y : Int} (hn : modB n = true) (hy : y = 1 ∨ y = 1 % n) : InvInv n A n (A % n) 0 y := by
  have hm := modB_iff.1 hn
  have h1 := emod_bd A n hm.1
  have h2 := emod_bd 1 n hm.1
  refine ⟨hm.1, hm.2, h1.1, by omega, by omega, by omega, by omega, by omega, by simp, ?_, fun d h3 h4 => ⟨h3, dvd_of_emod h3 h4⟩⟩
  rcases hy with rfl | rfl
  · rw [Int.mul_one, Int.emod_emod_of_dvd _ (Int.dvd_refl n)]
  · rw [mul_mod_r, Int.mul_one, Int.emod_emod_of_dvd _ (Int.dvd_refl n)]
theorem InvInv.next {n A r s x y : Int} (hn : modB n = true) (h : InvInv n A r s x y) (hs : s ≠ 0) :
    InvInv n A s (r - r / s * s) y (subI n x (mulI n (r / s) y)) := by
  have hm := modB_iff.1 hn
  have e := Int.ediv_mul_add_emod r s
  have h0 := h.s0
  have hb := emod_bd r s (by omega)
  have hz := subI_bd n x (mulI n (r / s) y)
  have hs1 := h.s1
  refine ⟨by omega, hs1, by omega, by omega, h.y0, h.y1, hz.1, hz.2, h.ys, ?_, ?_⟩
  · unfold subI mulI
    rw [if_pos hn, if_pos hn, mul_mod_r]
    have c1 := h.xr
    have c2 := h.ys
    have : (r - r / s * s - A * (x - (r / s * y) % n)) % n = 0 := by
      have d1 := Int.emod_eq_emod_iff_emod_sub_eq_zero.1 c1
      have d2 := Int.emod_eq_emod_iff_emod_sub_eq_zero.1 c2
      obtain ⟨p, hp⟩ := Int.dvd_of_emod_eq_zero d1
      obtain ⟨q, hq⟩ := Int.dvd_of_emod_eq_zero d2
      have hw := Int.ediv_mul_add_emod (r / s * y) n
      refine Int.emod_eq_zero_of_dvd ⟨- p + (r / s) * q - A * (r / s * y / n), ?_⟩
      grind
    rw [← Int.emod_eq_emod_iff_emod_sub_eq_zero.2 this]
  · intro d h1 h2
    refine h.dv d ?_ h1
    have : d ∣ r / s * s := Int.dvd_trans h1 (Int.dvd_mul_left _ _)
    have := Int.dvd_add h2 this
    rwa [Int.sub_add_cancel] at this
theorem InvInv.yes {n A r s x y : Int} (hn : modB n = true) (h : InvInv n A r s x y) (hr : r = 1) : invO n A = some (x % n) := by
  have hm := modB_iff.1 hn
  have hb := emod_bd x n hm.1
  exact invO_of hn hb.1 hb.2 (by rw [mul_mod_r, h.xr, hr])
theorem InvInv.no {n A r s x y : Int} (h : InvInv n A r s x y) (hs : s = 0) (hr : r ≠ 1) : invO n A = none := by
  refine invO_none fun z hz => ?_
  obtain ⟨d1, d2⟩ := h.dv r (Int.dvd_refl r) (by rw [hs]; exact Int.dvd_zero r)
  have e1 := Int.emod_eq_emod_iff_emod_sub_eq_zero.1 hz
  obtain ⟨p, hp⟩ := Int.dvd_of_emod_eq_zero e1
  obtain ⟨u, hu⟩ := d1
  obtain ⟨v, hv⟩ := d2
  have : r ∣ 1 := ⟨v * z - u * p, by grind⟩
  have := Int.le_of_dvd (by omega) this
  have := h.r0
  omega
theorem invO_mod (n a : Int) : invO n (a % n) = invO n a := by
  unfold invO
  simp only [mul_mod_l]

/-- Pow. -/
def powS (n a b : Int) : Int := if modB n then (if 0 ≤ b then powI n a b.toNat else match invO n a with | none => 0 | some x => powI n x (-b).toNat) else 0
theorem powS_bd (n a b : Int) : 0 ≤ powS n a b ∧ powS n a b < 2305843009213693952 := by
  unfold powS
  split
  · rename_i hn
    have hm := modB_iff.1 hn
    split
    · have := powI_bd hm.1 a b.toNat; omega
    · split
      · omega
      · rename_i x _; have := powI_bd hm.1 x (-b).toNat; omega
  · omega
end Go.Proofs.YtbllanmhbfnagaaDoor
namespace Go.Proofs.YtbllanmhbfnagaaDoor

def rotl (x s : Nat) : Nat := (x * 2 ^ s) % 4294967296 ||| x / 2 ^ (32 - s)
def sg0 (x : Nat) : Nat := (rotl x 25 ^^^ rotl x 14) ^^^ x / 8
def sg1 (x : Nat) : Nat := (rotl x 15 ^^^ rotl x 13) ^^^ x / 1024
/-- Word k of a block of bytes. -/
def wordAt (b : List Nat) (k : Nat) : Nat := ((b.getD (4 * k) 0 * 16777216 ||| b.getD (4 * k + 1) 0 * 65536) ||| b.getD (4 * k + 2) 0 * 256) ||| b.getD (4 * k + 3) 0
theorem wordAt_lt (b : List Nat) (k : Nat) (h : ∀ j, b.getD j 0 < 256) : wordAt b k < 4294967296 := by
  unfold wordAt
  have h0 := h (4 * k)
  have h1 := h (4 * k + 1)
  have h2 := h (4 * k + 2)
  have h3 := h (4 * k + 3)
  exact Nat.or_lt_two_pow (n := 32) (Nat.or_lt_two_pow (Nat.or_lt_two_pow (by omega) (by omega)) (by omega)) (by omega)
/-- The first n words of the message schedule of a block. -/
def sched (b : List Nat) : Nat → List Nat
  | 0 => []
  | k + 1 => sched b k ++ [if k < 16 then wordAt b k else ((((sched b k).getD (k - 16) 0 + sg0 ((sched b k).getD (k - 15) 0)) % 4294967296 + (sched b k).getD (k - 7) 0) % 4294967296 + sg1 ((sched b k).getD (k - 2) 0)) % 4294967296]
theorem sched_len (b : List Nat) (k : Nat) : (sched b k).length = k := by
  induction k with
  | zero => rfl
  | succ k ih => simp [sched, ih]

theorem sched_lt (b : List Nat) (h : ∀ j, b.getD j 0 < 256) (k : Nat) : ∀ j, (sched b k).getD j 0 < 4294967296 := by
  induction k with
  | zero => intro j; simp [sched]
  | succ k ih =>
    intro j
    simp only [sched, List.getD]
    rcases Nat.lt_or_ge j k with hj | hj
    · rw [List.getElem?_append_left (by rw [sched_len]; exact hj)]
      exact ih j
    · rw [List.getElem?_append_right (by rw [sched_len]; exact hj), sched_len]
      rcases Nat.eq_or_lt_of_le hj with hj | hj
      · subst hj
        rw [Nat.sub_self, List.getElem?_cons_zero, Option.getD_some]
        split
        · exact wordAt_lt b _ h
        · exact Nat.mod_lt _ (by omega)
      · rw [List.getElem?_eq_none (by simp; omega)]; simp
/-- The state: eight words. -/
structure St where
  a : Nat
  b : Nat
  c : Nat
  d : Nat
  e : Nat
  f : Nat
  g : Nat
  h : Nat
def bs1 (x : Nat) : Nat := (rotl x 26 ^^^ rotl x 21) ^^^ rotl x 7
def bs0 (x : Nat) : Nat := (rotl x 30 ^^^ rotl x 19) ^^^ rotl x 10
def chF (e f g : Nat) : Nat := g ^^^ (e &&& (f ^^^ g))
def mjF (a b c : Nat) : Nat := (a &&& b) ||| (c &&& (a ||| b))
def tF (v : St) (k w : Nat) : Nat := ((((v.h + bs1 v.e) % 4294967296 + chF v.e v.f v.g) % 4294967296 + k) % 4294967296 + w) % 4294967296
def roundF (v : St) (k w : Nat) : St :=
  ⟨((tF v k w + bs0 v.a) % 4294967296 + mjF v.a v.b v.c) % 4294967296, v.a, v.b, v.c, (v.d + tF v k w) % 4294967296, v.e, v.f, v.g⟩
def kTab : List Nat := [
  0x428a2f98, 0x71374491, 0xb5c0fbcf, 0xe9b5dba5, 0x3956c25b, 0x59f111f1, 0x923f82a4, 0xab1c5ed5,
  0xd807aa98, 0x12835b01, 0x243185be, 0x550c7dc3, 0x72be5d74, 0x80deb1fe, 0x9bdc06a7, 0xc19bf174,
  0xe49b69c1, 0xefbe4786, 0x0fc19dc6, 0x240ca1cc, 0x2de92c6f, 0x4a7484aa, 0x5cb0a9dc, 0x76f988da,
  0x983e5152, 0xa831c66d, 0xb00327c8, 0xbf597fc7, 0xc6e00bf3, 0xd5a79147, 0x06ca6351, 0x14292967,
  0x27b70a85, 0x2e1b2138, 0x4d2c6dfc, 0x53380d13, 0x650a7354, 0x766a0abb, 0x81c2c92e, 0x92722c85,
  0xa2bfe8a1, 0xa81a664b, 0xc24b8b70, 0xc76c51a3, 0xd192e819, 0xd6990624, 0xf40e3585, 0x106aa070,
  0x19a4c116, 0x1e376c08, 0x2748774c, 0x34b0bcb5, 0x391c0cb3, 0x4ed8aa4a, 0x5b9cca4f, 0x682e6ff3,
  0x748f82ee, 0x78a5636f, 0x84c87814, 0x8cc70208, 0x90befffa, 0xa4506ceb, 0xbef9a3f7, 0xc67178f2]
/-- The state after n rounds. -/
def roundsF (ws : List Nat) (v : St) : Nat → St
  | 0 => v
  | n + 1 => roundF (roundsF ws v n) (kTab.getD n 0) (ws.getD n 0)
structure StOK (v : St) : Prop where
  a : v.a < 4294967296
  b : v.b < 4294967296
  c : v.c < 4294967296
  d : v.d < 4294967296
  e : v.e < 4294967296
  f : v.f < 4294967296
  g : v.g < 4294967296
  h : v.h < 4294967296
theorem StOK.round {v : St} (h : StOK v) (k w : Nat) : StOK (roundF v k w) :=
  ⟨Nat.mod_lt _ (by omega), h.a, h.b, h.c, Nat.mod_lt _ (by omega), h.e, h.f, h.g⟩
theorem StOK.rounds (ws : List Nat) {v : St} (h : StOK v) (n : Nat) : StOK (roundsF ws v n) := by
  induction n with
  | zero => exact h
  | succ n ih => exact ih.round _ _
def addSt (v h : St) : St :=
  ⟨(v.a + h.a) % 4294967296, (v.b + h.b) % 4294967296, (v.c + h.c) % 4294967296, (v.d + h.d) % 4294967296, (v.e + h.e) % 4294967296, (v.f + h.f) % 4294967296, (v.g + h.g) % 4294967296, (v.h + h.h) % 4294967296⟩
theorem StOK.add (v h : St) : StOK (addSt v h) :=
  ⟨Nat.mod_lt _ (by omega), Nat.mod_lt _ (by omega), Nat.mod_lt _ (by omega), Nat.mod_lt _ (by omega), Nat.mod_lt _ (by omega), Nat.mod_lt _ (by omega), Nat.mod_lt _ (by omega), Nat.mod_lt _ (by omega)⟩
/-- The state after a block. -/
def mixF (h : St) (b : List Nat) : St := addSt (roundsF (sched b 64) h 64) h
def firstF : St := ⟨0x6a09e667, 0xbb67ae85, 0x3c6ef372, 0xa54ff53a, 0x510e527f, 0x9b05688c, 0x1f83d9ab, 0x5be0cd19⟩
theorem StOK.first : StOK firstF := ⟨by decide, by decide, by decide, by decide, by decide, by decide, by decide, by decide⟩
/-- The state after n blocks. -/
def blocksF (p : List Nat) : Nat → St
  | 0 => firstF
  | n + 1 => mixF (blocksF p n) ((p.drop (64 * n)).take 64)
def zerosN (l : Nat) : Nat := (55 + (64 - l % 64)) % 64
def lenBytes (l : Nat) : List Nat := [8 * l / 2 ^ 56 % 256, 8 * l / 2 ^ 48 % 256, 8 * l / 2 ^ 40 % 256, 8 * l / 2 ^ 32 % 256, 8 * l / 2 ^ 24 % 256, 8 * l / 2 ^ 16 % 256, 8 * l / 2 ^ 8 % 256, 8 * l % 256]
/-- The message with its padding. -/
def padF (b : List Nat) : List Nat := b ++ [128] ++ List.replicate (zerosN b.length) 0 ++ lenBytes b.length
def wordBytes (x : Nat) : List Nat := [x / 16777216 % 256, x / 65536 % 256, x / 256 % 256, x % 256]
def stBytes (v : St) : List Nat := wordBytes v.a ++ wordBytes v.b ++ wordBytes v.c ++ wordBytes v.d ++ wordBytes v.e ++ wordBytes v.f ++ wordBytes v.g ++ wordBytes v.h
def shaF (b : List Nat) : List Nat := stBytes (blocksF (padF b) ((padF b).length / 64))

def stL (v : St) : List Nat := [v.a, v.b, v.c, v.d, v.e, v.f, v.g, v.h]
/-- The first j words of l have been added to those of h. -/
def sumL (l h : List Nat) (j : Nat) : List Nat := (List.range 8).map (fun i => if i < j then (l.getD i 0 + h.getD i 0) % 4294967296 else l.getD i 0)
theorem sumL_len (l h : List Nat) (j : Nat) : (sumL l h j).length = 8 := by simp [sumL]
theorem sumL_at (l h : List Nat) (j i : Nat) (hi : i < 8) : (sumL l h j).getD i 0 = if i < j then (l.getD i 0 + h.getD i 0) % 4294967296 else l.getD i 0 := by
  simp [sumL, List.getD, hi]
theorem sumL_set (l h : List Nat) (j : Nat) (hj : j < 8) : (sumL l h j).set j ((l.getD j 0 + h.getD j 0) % 4294967296) = sumL l h (j + 1) := by
  refine List.ext_getElem? fun i => ?_
  rw [List.getElem?_set, sumL_len]
  by_cases hij : j = i
  · subst hij
    simp [sumL, hj]
  · rw [if_neg hij]
    by_cases hi : i < 8
    · simp only [sumL, List.getElem?_map, List.getElem?_range hi, Option.map_some]
      congr 1
      by_cases h1 : i < j
      · rw [if_pos h1, if_pos (by omega)]
      · rw [if_neg h1, if_neg (by omega)]
    · rw [List.getElem?_eq_none (by rw [sumL_len]; omega), List.getElem?_eq_none (by rw [sumL_len]; omega)]
theorem sumL_zero (v : St) (hl : List Nat) : sumL (stL v) hl 0 = stL v := by
  obtain ⟨a, b, c, d, e, f, g, h⟩ := v
  simp [sumL, stL, List.range, List.range.loop]
theorem sumL_done (v h : St) : sumL (stL v) (stL h) 8 = stL (addSt v h) := by
  obtain ⟨a, b, c, d, e, f, g, h1⟩ := v
  obtain ⟨a2, b2, c2, d2, e2, f2, g2, h2⟩ := h
  simp [sumL, stL, addSt, List.range, List.range.loop]
theorem sha_abc : shaF [97, 98, 99] = [0xba, 0x78, 0x16, 0xbf, 0x8f, 0x01, 0xcf, 0xea, 0x41, 0x41, 0x40, 0xde, 0x5d, 0xae, 0x22, 0x23, 0xb0, 0x03, 0x61, 0xa3, 0x96, 0x17, 0x7a, 0x9c, 0xb4, 0x10, 0xff, 0x61, 0xf2, 0x00, 0x15, 0xad] := by decide +kernel
end Go.Proofs.YtbllanmhbfnagaaDoor
namespace Go.Proofs.YtbllanmhbfnagaaDoor
theorem zerosN_le (L : Nat) : zerosN L ≤ 63 := by unfold zerosN; omega
theorem zerosN_end (L : Nat) : (L + 1 + zerosN L) % 64 = 56 := by unfold zerosN; omega
theorem zerosN_not (L z : Nat) (h : z < zerosN L) : (L + 1 + z) % 64 ≠ 56 := by unfold zerosN at h; omega
theorem lenBytes_len (L : Nat) : (lenBytes L).length = 8 := rfl
theorem lenBytes_step (L j : Nat) (hj : j < 8) : (lenBytes L).take (j + 1) = (lenBytes L).take j ++ [8 * L / 2 ^ (56 - 8 * j) % 256] := by
  rw [List.take_add_one]
  congr 1
  match j, hj with
  | 0, _ => rfl
  | 1, _ => rfl
  | 2, _ => rfl
  | 3, _ => rfl
  | 4, _ => rfl
  | 5, _ => rfl
  | 6, _ => rfl
  | 7, _ => simp [lenBytes]
/-- The message, the mark, so many zeros. -/
def padZ (l : List Nat) (z : Nat) : List Nat := l ++ [128] ++ List.replicate z 0
theorem padZ_len (l : List Nat) (z : Nat) : (padZ l z).length = l.length + 1 + z := by simp [padZ]; omega
theorem padZ_step (l : List Nat) (z : Nat) : padZ l z ++ [0] = padZ l (z + 1) := by
  unfold padZ
  rw [List.append_assoc, ← List.replicate_succ']
/-- The message with its zeros and so many bytes of its length. -/
def padJ (l : List Nat) (j : Nat) : List Nat := padZ l (zerosN l.length) ++ (lenBytes l.length).take j
theorem padJ_zero (l : List Nat) : padZ l (zerosN l.length) = padJ l 0 := by simp [padJ]
theorem padJ_len (l : List Nat) (j : Nat) (hj : j ≤ 8) : (padJ l j).length = l.length + 1 + zerosN l.length + j := by
  rw [padJ, List.length_append, padZ_len, List.length_take, lenBytes_len, Nat.min_eq_left hj]
theorem padJ_step (l : List Nat) (j : Nat) (hj : j < 8) : padJ l j ++ [8 * l.length / 2 ^ (56 - 8 * j) % 256] = padJ l (j + 1) := by
  unfold padJ
  rw [List.append_assoc, lenBytes_step _ j hj]
theorem padJ_done (l : List Nat) : padJ l 8 = padF l := by
  unfold padJ padF padZ
  rw [List.take_of_length_le (by rw [lenBytes_len]; exact Nat.le_refl _)]
theorem padF_len (l : List Nat) : (padF l).length = l.length + 1 + zerosN l.length + 8 := by rw [← padJ_done, padJ_len l 8 (by omega)]
theorem padF_blocks (l : List Nat) : (padF l).length = 64 * ((padF l).length / 64) := by
  rw [padF_len]; have := zerosN_end l.length; omega
theorem padF_lt (l : List Nat) (h : ∀ j, l.getD j 0 < 256) (j : Nat) : (padF l).getD j 0 < 256 := by
  rw [← padJ_done]
  unfold padJ padZ
  simp only [List.getD, List.getElem?_append]
  split
  · split
    · split
      · exact h j
      · cases hx : [128][j - l.length]? with
        | none => simp
        | some y =>
          have := List.mem_of_getElem? hx
          simp at this; subst this; simp
    · cases hx : (List.replicate (zerosN l.length) 0)[j - (l ++ [128]).length]? with
      | none => simp
      | some y =>
        have := List.mem_of_getElem? hx
        simp at this; simp [this.2]
  · cases hx : ((lenBytes l.length).take 8)[j - (l ++ [128] ++ List.replicate (zerosN l.length) 0).length]? with
    | none => simp
    | some y =>
      have := List.mem_of_mem_take (List.mem_of_getElem? hx)
      simp only [lenBytes, List.mem_cons, List.not_mem_nil, or_false] at this
      show y < 256
      rcases this with h | h | h | h | h | h | h | h <;> (subst h; exact Nat.mod_lt _ (by omega))
/-- The block number i of a message with its padding. -/
theorem blk_getD (p : List Nat) (i j : Nat) (hj : j < 64) : ((p.drop (64 * i)).take 64).getD j 0 = p.getD (64 * i + j) 0 := by
  simp only [List.getD, List.getElem?_take, List.getElem?_drop]
  rw [if_pos hj]
theorem blk_len (p : List Nat) (i N : Nat) (hN : p.length = 64 * N) (hi : i < N) : ((p.drop (64 * i)).take 64).length = 64 := by
  rw [List.length_take, List.length_drop, hN]; omega
theorem blk_lt (p : List Nat) (i : Nat) (h : ∀ j, p.getD j 0 < 256) (j : Nat) : ((p.drop (64 * i)).take 64).getD j 0 < 256 := by
  by_cases hj : j < 64
  · rw [blk_getD p i j hj]; exact h _
  · simp only [List.getD, List.getElem?_take]
    rw [if_neg hj]; simp
theorem blocksF_ok (p : List Nat) (n : Nat) : StOK (blocksF p n) := by
  cases n with
  | zero => exact StOK.first
  | succ n => exact StOK.add _ _
theorem blocksF_succ (p : List Nat) (i : Nat) : blocksF p (i + 1) = mixF (blocksF p i) ((p.drop (64 * i)).take 64) := by rw [blocksF]
/-- The bytes of so many words. -/
def outL (l : List Nat) (i : Nat) : List Nat := (l.take i).flatMap wordBytes
theorem outL_zero (l : List Nat) : outL l 0 = [] := rfl
theorem outL_step (l : List Nat) (i : Nat) (h : i < l.length) : outL l i ++ wordBytes (l.getD i 0) = outL l (i + 1) := by
  unfold outL
  rw [List.take_add_one, List.flatMap_append, List.getElem?_eq_getElem h, List.getD, List.getElem?_eq_getElem h]
  simp
theorem outL_len (l : List Nat) (i : Nat) (h : i ≤ l.length) : (outL l i).length = 4 * i := by
  induction i with
  | zero => rfl
  | succ i ih => rw [← outL_step l i (by omega), List.length_append, ih (by omega)]; simp [wordBytes]; omega
theorem outL_lt (l : List Nat) (i : Nat) : ∀ y ∈ outL l i, y < 256 := by
  intro y hy
  obtain ⟨x, _, hx⟩ := List.mem_flatMap.1 hy
  simp only [wordBytes, List.mem_cons, List.not_mem_nil, or_false] at hx
  rcases hx with h | h | h | h <;> (subst h; exact Nat.mod_lt _ (by omega))
theorem outL_done (v : St) : outL (stL v) 8 = stBytes v := by
  simp [outL, stL, stBytes]
theorem shaF_eq (l : List Nat) (N : Nat) (hN : (padF l).length = 64 * N) : shaF l = outL (stL (blocksF (padF l) N)) 8 := by
  rw [outL_done, shaF, hN, Nat.mul_div_cancel_left _ (by omega)]
theorem shaF_len (l : List Nat) : (shaF l).length = 32 := by
  rw [shaF_eq l _ (padF_blocks l), outL_len _ 8 (by show 8 ≤ 8; omega)]
theorem shaF_lt (l : List Nat) : ∀ y ∈ shaF l, y < 256 := by
  rw [shaF_eq l _ (padF_blocks l)]; exact outL_lt _ _
end Go.Proofs.YtbllanmhbfnagaaDoor
namespace Go.Proofs.YtbllanmhbfnagaaDoor
theorem sub_mod_l (a b n : Int) : (a % n - b) % n = (a - b) % n := by rw [Int.sub_emod, Int.emod_emod_of_dvd _ (Int.dvd_refl n), ← Int.sub_emod]
theorem add_mod_l (a b n : Int) : (a % n + b) % n = (a + b) % n := by rw [Int.add_emod, Int.emod_emod_of_dvd _ (Int.dvd_refl n), ← Int.add_emod]
theorem add_mod_r (a b n : Int) : (a + b % n) % n = (a + b) % n := by rw [Int.add_emod, Int.emod_emod_of_dvd _ (Int.dvd_refl n), ← Int.add_emod]
theorem mod_mod (a n : Int) : a % n % n = a % n := Int.emod_emod_of_dvd _ (Int.dvd_refl n)
/-- WHAT FieldRing asks of a modulus. -/
theorem ring_facts (n a b c : Int) (h : modB n = true) :
    addI n b a = addI n a b ∧ mulI n b a = mulI n a b ∧ subI n (addI n a b) b = addI n a 0 ∧ subI n a a = 0 ∧
    addI n a (addI n b c) = addI n (addI n a b) c ∧ mulI n a (mulI n b c) = mulI n (mulI n a b) c ∧ addI n (mulI n a c) (mulI n b c) = mulI n (addI n a b) c ∧
    mulI n a 1 = addI n a 0 ∧ mulI n a (-1) = subI n 0 a := by
  simp only [addI_of h, mulI_of h, subI_of h, sub_mod_l, add_mod_l, add_mod_r, mul_mod_l, mul_mod_r]
  refine ⟨?_, ?_, ?_, ?_, ?_, ?_, ?_, ?_, ?_⟩
  · rw [Int.add_comm]
  · rw [Int.mul_comm]
  · congr 1; omega
  · simp
  · congr 1; omega
  · rw [Int.mul_assoc]
  · rw [Int.add_mul]
  · congr 1; omega
  · congr 1; omega
theorem ring_bd (n a b : Int) (h : modB n = true) : 0 ≤ addI n a b ∧ addI n a b < n ∧ 0 ≤ mulI n a b ∧ mulI n a b < n := by
  have h1 := (modB_iff.1 h).1
  rw [addI_of h, mulI_of h]
  exact ⟨(emod_bd _ _ h1).1, (emod_bd _ _ h1).2, (emod_bd _ _ h1).1, (emod_bd _ _ h1).2⟩
theorem ring_none (n a b : Int) (h : modB n = false) : addI n a b = 0 ∧ subI n a b = 0 ∧ mulI n a b = 0 ∧ powS n a b = 0 ∧ invO n a = none := by
  simp [addI, subI, mulI, powS, invO, h]
theorem powI_add (n a : Int) (j k : Nat) : powI n a (j + k) = powI n a j * powI n a k % n := by
  unfold powI; rw [mul_mod_l, mul_mod_r, Int.pow_add]
theorem powI_mul (n a : Int) (j k : Nat) : powI n a (j * k) = powI n (powI n a j) k := by
  unfold powI; rw [pow_mod, Int.pow_mul]
theorem powI_one (n a : Int) : powI n a 1 = a % n := by unfold powI; rw [show (1 : Nat) = 0 + 1 from rfl, Int.pow_succ, Int.pow_zero, Int.one_mul]
theorem powI_zero (n a : Int) : powI n a 0 = 1 % n := by unfold powI; rw [Int.pow_zero]
theorem one_powI (n : Int) (k : Nat) : powI n (1 % n) k = 1 % n := by rw [powI_mod]; unfold powI; rw [Int.one_pow]
theorem powI_mulb (n a b : Int) (k : Nat) : powI n (a * b % n) k = powI n a k * powI n b k % n := by
  unfold powI; rw [pow_mod, mul_mod_l, mul_mod_r, Int.mul_pow]
end Go.Proofs.YtbllanmhbfnagaaDoor
namespace Go.Proofs.YtbllanmhbfnagaaDoor
theorem inv_facts (n a : Int) (h : modB n = true) : 0 ≤ invI n a ∧ invI n a < n ∧ (invB n a = true → mulI n a (invI n a) = 1 % n) ∧ (invB n a = false → invI n a = 0) := by
  have h1 := (modB_iff.1 h).1
  unfold invI invB
  cases hx : invO n a with
  | none => exact ⟨by simp, by simp; omega, by simp, by simp⟩
  | some x =>
    obtain ⟨_, h2, h3, h4⟩ := invO_some hx
    exact ⟨by simpa using h2, by simpa using h3, fun _ => by rw [mulI_of h]; simpa using h4, by simp⟩
theorem powS_nn {n a b : Int} (h : modB n = true) (hb : 0 ≤ b) : powS n a b = powI n a b.toNat := by unfold powS; rw [if_pos h, if_pos hb]
theorem powS_none {n a b : Int} (h : modB n = true) (hi : invO n a = none) (hb : b < 0) : powS n a b = 0 := by unfold powS; rw [if_pos h, if_neg (by omega), hi]
theorem powS_neg {n a b x : Int} (h : modB n = true) (hi : invO n a = some x) (hb : b < 0) : powS n a b = powI n x (-b).toNat := by unfold powS; rw [if_pos h, if_neg (by omega), hi]
theorem powS_n1 (n a : Int) (h : modB n = true) : powS n a (-1) = invI n a := by
  unfold invI
  cases hx : invO n a with
  | none => rw [powS_none h hx (by omega)]; rfl
  | some x =>
    obtain ⟨_, h2, h3, _⟩ := invO_some hx
    rw [powS_neg h hx (by omega)]
    show powI n x 1 = x
    rw [powI_one, Int.emod_eq_of_lt h2 h3]
theorem powI_succ (n a : Int) (k : Nat) : powI n a (k + 1) = powI n a k * a % n := by
  rw [powI_add, powI_one, mul_mod_r]
theorem powS_succ {n a x : Int} (h : modB n = true) (hi : invO n a = some x) (j : Int) : powS n a (j + 1) = powS n a j * a % n := by
  obtain ⟨_, h2, h3, h4⟩ := invO_some hi
  have h4' : x * a % n = 1 % n := by rw [Int.mul_comm]; exact h4
  rcases Int.lt_or_le j 0 with hj | hj
  · rw [powS_neg h hi hj]
    obtain ⟨m, hm⟩ : ∃ m : Nat, (-j).toNat = m + 1 := ⟨(-j).toNat - 1, by omega⟩
    rw [hm, powI_succ, mul_mod_l, Int.mul_assoc, ← mul_mod_r, h4', mul_mod_r, Int.mul_one]
    rcases Int.lt_or_le (j + 1) 0 with hj1 | hj1
    · rw [powS_neg h hi hj1, show (-(j + 1)).toNat = m by omega]
      unfold powI; rw [mod_mod]
    · rw [powS_nn h hj1, show (j + 1).toNat = 0 by omega, show m = 0 by omega, powI_zero, powI_zero, mod_mod]
  · rw [powS_nn h hj, powS_nn h (by omega), show (j + 1).toNat = j.toNat + 1 by omega, powI_succ]
theorem powS_bdn (n a b : Int) (h : modB n = true) : 0 ≤ powS n a b ∧ powS n a b < n := by
  have h1 := (modB_iff.1 h).1
  unfold powS
  rw [if_pos h]
  split
  · exact powI_bd h1 _ _
  · split
    · omega
    · exact powI_bd h1 _ _
theorem powS_mod (n a b : Int) (h : modB n = true) : powS n a b % n = powS n a b := Int.emod_eq_of_lt (powS_bdn n a b h).1 (powS_bdn n a b h).2
theorem powS_pred {n a x : Int} (h : modB n = true) (hi : invO n a = some x) (j : Int) : powS n a (j - 1) = powS n a j * x % n := by
  obtain ⟨_, h2, h3, h4⟩ := invO_some hi
  have hs := powS_succ h hi (j - 1)
  rw [show j - 1 + 1 = j by omega] at hs
  rw [hs, mul_mod_l, Int.mul_assoc, ← mul_mod_r, h4, mul_mod_r, Int.mul_one, powS_mod _ _ _ h]
theorem int_ind {P : Int → Prop} (zero : P 0) (succ : ∀ k, P k → P (k + 1)) (pred : ∀ k, P k → P (k - 1)) (k : Int) : P k := by
  have h1 : ∀ m : Nat, P (m : Int) := fun m => by
    induction m with
    | zero => exact zero
    | succ m ih => exact succ _ ih
  have h2 : ∀ m : Nat, P (-(m : Int)) := fun m => by
    induction m with
    | zero => exact zero
    | succ m ih => rw [show -(((m + 1 : Nat)) : Int) = -(m : Int) - 1 by omega]; exact pred _ ih
  rcases Int.lt_or_le k 0 with hk | hk
  · have := h2 (-k).toNat
    rwa [show -(((-k).toNat : Nat) : Int) = k by omega] at this
  · have := h1 k.toNat
    rwa [show ((k.toNat : Nat) : Int) = k by omega] at this
/-- A sum of exponents. -/
theorem powS_add {n a x : Int} (h : modB n = true) (hi : invO n a = some x) (j k : Int) : powS n a (j + k) = powS n a j * powS n a k % n := by
  induction k using int_ind with
  | zero => rw [Int.add_zero, powS_nn (b := 0) h (by omega)]; show _ = powS n a j * powI n a 0 % n; rw [powI_zero, mul_mod_r, Int.mul_one, powS_mod _ _ _ h]
  | succ k ih => rw [← Int.add_assoc, powS_succ h hi, ih, powS_succ h hi, mul_mod_l, mul_mod_r, Int.mul_assoc]
  | pred k ih => rw [← Int.add_sub_assoc, powS_pred h hi, ih, powS_pred h hi, mul_mod_l, mul_mod_r, Int.mul_assoc]
theorem powS_unit {n a x : Int} (h : modB n = true) (hi : invO n a = some x) (j : Int) : invO n (powS n a j) = some (powS n a (-j)) := by
  have hb := powS_bdn n a (-j) h
  refine invO_of h hb.1 hb.2 ?_
  rw [← powS_add h hi, show j + -j = 0 by omega, powS_nn h (by omega)]
  show powI n a 0 = _
  rw [powI_zero]
/-- A product of exponents. -/
theorem powS_mul {n a x : Int} (h : modB n = true) (hi : invO n a = some x) (j k : Int) : powS n a (j * k) = powS n (powS n a j) k := by
  have hu := powS_unit h hi j
  induction k using int_ind with
  | zero => rw [Int.mul_zero, powS_nn h (by omega), powS_nn h (by omega)]; show powI n a 0 = powI n _ 0; rw [powI_zero, powI_zero]
  | succ k ih => rw [Int.mul_add, Int.mul_one, powS_add h hi, ih, powS_succ h hu]
  | pred k ih => rw [Int.mul_sub, Int.mul_one, Int.sub_eq_add_neg, powS_add h hi, ih, powS_pred h hu]
/-- WHAT FieldPowers asks of a modulus. -/
theorem powers_facts (n a j k : Int) (h : modB n = true) (hg : invB n a = true ∨ 0 ≤ j ∧ 0 ≤ k) :
    powS n a (j + k) = mulI n (powS n a j) (powS n a k) ∧ powS n a (j * k) = powS n (powS n a j) k := by
  rw [mulI_of h]
  cases hx : invO n a with
  | some x => exact ⟨powS_add h hx j k, powS_mul h hx j k⟩
  | none =>
    rcases hg with hg | ⟨hj, hk⟩
    · unfold invB at hg; rw [hx] at hg; cases hg
    · rw [powS_nn h hj, powS_nn h hk, powS_nn h (by omega), powS_nn h (Int.mul_nonneg hj hk), powS_nn h hk, ← powI_add, ← powI_mul]
      exact ⟨by congr 1; omega, by congr 1; exact Int.toNat_mul hj hk⟩
theorem powS_01 (n a : Int) (h : modB n = true) : powS n a 0 = 1 % n ∧ powS n a 1 = addI n a 0 := by
  rw [powS_nn h (by omega), powS_nn h (by omega), addI_of h, Int.add_zero]
  exact ⟨powI_zero n a, powI_one n a⟩
theorem powS_noinv (n a j : Int) (h : modB n = true) (hi : invB n a = false) (hj : j < 0) : powS n a j = 0 := by
  refine powS_none h ?_ hj
  unfold invB at hi
  cases hx : invO n a with
  | none => rfl
  | some x => rw [hx] at hi; cases hi
end Go.Proofs.YtbllanmhbfnagaaDoor
namespace Go.Proofs.YtbllanmhbfnagaaDoor
/-- A modulus and an order. -/
structure PQ (P Q : Int) : Prop where
  p : modB P = true
  q : modB Q = true
  p2 : 2 ≤ P
  q1 : 1 ≤ Q
/-- Power with the exponent modulo Q. -/
def pwI (P Q x k : Int) : Int := powI P x (k % Q).toNat
structure El (P Q x : Int) : Prop where
  lo : 0 ≤ x
  hi : x < P
  one : powI P x Q.toNat = 1
theorem one_mod {P : Int} (h : 2 ≤ P) : 1 % P = 1 := Int.emod_eq_of_lt (by omega) (by omega)
theorem powI_period {P Q x : Int} (hP : 2 ≤ P) (h : powI P x Q.toNat = 1) (a c : Nat) : powI P x (a + Q.toNat * c) = powI P x a := by
  rw [powI_add, powI_mul, h]
  have h1 : powI P 1 c = 1 := by unfold powI; rw [Int.one_pow]; exact one_mod hP
  rw [h1, Int.mul_one]; unfold powI; rw [mod_mod]
/-- Exponents count modulo Q. -/
theorem powI_cong {P Q x : Int} (hP : 2 ≤ P) (hQ : 1 ≤ Q) (h : powI P x Q.toNat = 1) {a b : Int} (ha : 0 ≤ a) (hb : a % Q = b % Q) : powI P x a.toNat = powI P x (b % Q).toNat := by
  rw [← hb]
  have e := Int.emod_add_mul_ediv a Q
  have h0 : 0 ≤ a / Q := Int.ediv_nonneg ha (by omega)
  have h1 := emod_bd a Q hQ
  have e2 : a.toNat = (a % Q).toNat + Q.toNat * (a / Q).toNat := by
    rw [← Int.toNat_mul (by omega) h0, ← Int.toNat_add (by omega) (Int.mul_nonneg (by omega) h0), e]
  rw [e2, powI_period hP h]
theorem El.pos {P Q x : Int} (h : El P Q x) (g : PQ P Q) : 1 ≤ x := by
  rcases Int.lt_or_le x 1 with hx | hx
  · have h0 : x = 0 := by have := h.lo; omega
    have h1 := h.one
    have h2 := g.p2
    have h3 := g.q1
    subst h0
    obtain ⟨m, hm⟩ : ∃ m : Nat, Q.toNat = m + 1 := ⟨Q.toNat - 1, by omega⟩
    rw [hm, powI_succ, Int.mul_zero, Int.zero_emod] at h1
    omega
  · exact hx
theorem pwI_bd {P Q : Int} (g : PQ P Q) (x k : Int) : 0 ≤ pwI P Q x k ∧ pwI P Q x k < P := powI_bd (by have := g.p2; omega) _ _
theorem El.pw {P Q x : Int} (h : El P Q x) (g : PQ P Q) (k : Int) : El P Q (pwI P Q x k) := by
  refine ⟨(pwI_bd g x k).1, (pwI_bd g x k).2, ?_⟩
  unfold pwI
  rw [← powI_mul, Nat.mul_comm, powI_mul, h.one]
  unfold powI; rw [Int.one_pow]; exact one_mod g.p2
theorem El.mul {P Q x y : Int} (hx : El P Q x) (hy : El P Q y) (g : PQ P Q) : El P Q (x * y % P) := by
  have h1 := g.p2
  refine ⟨(emod_bd _ _ (by omega)).1, (emod_bd _ _ (by omega)).2, ?_⟩
  rw [powI_mulb, hx.one, hy.one]; exact one_mod g.p2
theorem El.inv {P Q y : Int} (hy : El P Q y) (g : PQ P Q) : ∃ z, invO P y = some z ∧ El P Q z ∧ y * z % P = 1 := by
  have h1 := g.p2
  have h2 := g.q1
  have hb := powI_bd (n := P) (by omega) y (Q.toNat - 1)
  have hm : y * powI P y (Q.toNat - 1) % P = 1 := by
    have := hy.one
    rw [show Q.toNat = Q.toNat - 1 + 1 by omega, powI_succ, Int.mul_comm] at this
    exact this
  refine ⟨powI P y (Q.toNat - 1), invO_of g.p hb.1 hb.2 (by rw [hm, one_mod g.p2]), ⟨hb.1, hb.2, ?_⟩, hm⟩
  rw [← powI_mul, Nat.mul_comm, powI_mul, hy.one]
  unfold powI; rw [Int.one_pow]; exact one_mod g.p2
theorem pw_cong {P Q x : Int} (g : PQ P Q) (hx : El P Q x) {a k : Int} (ha : 0 ≤ a) (h : a % Q = k % Q) : powI P x a.toNat = pwI P Q x k := powI_cong g.p2 g.q1 hx.one ha h
theorem pw_mod {P Q : Int} (x k : Int) : pwI P Q x (k % Q) = pwI P Q x k := by unfold pwI; rw [mod_mod]
theorem pw_add {P Q x : Int} (g : PQ P Q) (hx : El P Q x) (k m : Int) : pwI P Q x (k + m) = pwI P Q x k * pwI P Q x m % P := by
  have h1 := g.q1
  have hk := emod_bd k Q g.q1
  have hm := emod_bd m Q g.q1
  rw [← pw_cong g hx (a := k % Q + m % Q) (by omega) (by rw [← Int.add_emod]), Int.toNat_add hk.1 hm.1, powI_add]; rfl
theorem pw_mul {P Q x : Int} (g : PQ P Q) (hx : El P Q x) (k m : Int) : pwI P Q x (k * m) = pwI P Q (pwI P Q x k) m := by
  have hk := emod_bd k Q g.q1
  have hm := emod_bd m Q g.q1
  rw [← pw_cong g hx (a := (k % Q) * (m % Q)) (Int.mul_nonneg hk.1 hm.1) (by rw [← Int.mul_emod]), Int.toNat_mul hk.1 hm.1, powI_mul]; rfl
theorem pw_mulb {P Q : Int} (x y k : Int) : pwI P Q (x * y % P) k = pwI P Q x k * pwI P Q y k % P := powI_mulb _ _ _ _
/-- WHAT FieldExponents asks of two elements. -/
theorem expo_facts {P Q G : Int} (g : PQ P Q) (hG : El P Q G) (i j k m : Int) {x y : Int} (hx' : pwI P Q G i = x) (hy' : pwI P Q G j = y) :
    El P Q x ∧ El P Q y ∧ El P Q (mulI P x y) ∧ El P Q (mulI P x (invI P y)) ∧ El P Q (pwI P Q x k) ∧ mulI P (mulI P x (invI P y)) y = x ∧ mulI P (mulI P x y) (invI P y) = x ∧
    pwI P Q x (addI Q k 0) = pwI P Q x k ∧ pwI P Q x (addI Q k m) = mulI P (pwI P Q x k) (pwI P Q x m) ∧ pwI P Q x (mulI Q k m) = pwI P Q (pwI P Q x k) m ∧
    pwI P Q (mulI P x y) k = mulI P (pwI P Q x k) (pwI P Q y k) ∧ mulI P (1 % P) (pwI P Q x k) = pwI P Q x k ∧ pwI P Q G (addI Q i j) = mulI P x y := by
  subst hx' hy'
  have hx := hG.pw g i
  have hy := hG.pw g j
  have hij := pw_add g hG i j
  generalize pwI P Q G i = x at *
  generalize pwI P Q G j = y at *
  obtain ⟨z, hz, ez, hyz⟩ := hy.inv g
  have hI : invI P y = z := by unfold invI; rw [hz]; rfl
  have hyz' : z * y % P = 1 := by rw [Int.mul_comm]; exact hyz
  simp only [hI, mulI_of g.p, mulI_of g.q, addI_of g.q, pw_mod, Int.add_zero]
  refine ⟨hx, hy, hx.mul hy g, hx.mul ez g, hx.pw g k, ?_, ?_, trivial, pw_add g hx k m, pw_mul g hx k m, pw_mulb x y k, ?_, hij⟩
  · rw [mul_mod_l, Int.mul_assoc, ← mul_mod_r, hyz', Int.mul_one, Int.emod_eq_of_lt hx.lo hx.hi]
  · rw [mul_mod_l, Int.mul_assoc, ← mul_mod_r, hyz, Int.mul_one, Int.emod_eq_of_lt hx.lo hx.hi]
  · rw [mul_mod_l, Int.one_mul, Int.emod_eq_of_lt (pwI_bd g x k).1 (pwI_bd g x k).2]
end Go.Proofs.YtbllanmhbfnagaaDoor
namespace Go.Proofs.YtbllanmhbfnagaaDoor
def resRow (q : Int) (r : List Int) : List Int := r.map (fun x => x % q)
def normR (q inv : Int) (row : List Int) : List Int := row.map (fun x => mulI q x inv)
def lessR (q t : Int) (row piv : List Int) : List Int := (List.range row.length).map (fun j => subI q (row.getD j 0) (mulI q t (piv.getD j 0)))
def elimF (q : Int) (k col : Nat) (M : List (List Int)) : List (List Int) :=
  (List.range M.length).map (fun i => if i = k ∨ (M.getD i []).getD col 0 = 0 then M.getD i [] else lessR q ((M.getD i []).getD col 0) (M.getD i []) (M.getD k []))
def pickF (M : List (List Int)) (col k : Nat) : Option Nat := (List.range M.length).find? (fun i => decide (k ≤ i) && ((M.getD i []).getD col 0 != 0))
def stepF (q : Int) (S : List (List Int) × List Nat) (col : Nat) : List (List Int) × List Nat :=
  match pickF S.1 col S.2.length with
  | none => S
  | some a =>
    let M1 := (S.1.set S.2.length (S.1.getD a [])).set a (S.1.getD S.2.length [])
    let M2 := M1.set S.2.length (normR q (invI q ((S.1.getD a []).getD col 0)) (S.1.getD a []))
    (elimF q S.2.length col M2, S.2 ++ [col])
def redF (q : Int) (M : List (List Int)) : Nat → List (List Int) × List Nat
  | 0 => (M, [])
  | n + 1 => stepF q (redF q M n) n
/-- Partly new. -/
def partL {α : Type} (old new : List α) (j : Nat) : List α := new.take j ++ old.drop j
section
variable {α : Type} {old new : List α}
theorem partL_zero : partL old new 0 = old := by simp [partL]
theorem partL_len (h : new.length = old.length) (j : Nat) : (partL old new j).length = old.length := by simp [partL]; omega
theorem partL_full (h : new.length = old.length) : partL old new old.length = new := by
  unfold partL
  rw [List.drop_length, List.append_nil, List.take_of_length_le (by omega)]
theorem partL_lt {j i : Nat} (d : α) (h : new.length = old.length) (hj : j ≤ old.length) (hi : i < j) : (partL old new j).getD i d = new.getD i d := by
  unfold partL
  simp only [List.getD]
  rw [List.getElem?_append_left (by rw [List.length_take]; omega), List.getElem?_take_of_lt hi]
theorem partL_ge {j i : Nat} (d : α) (h : new.length = old.length) (hj : j ≤ old.length) (hi : j ≤ i) : (partL old new j).getD i d = old.getD i d := by
  unfold partL
  simp only [List.getD]
  rw [List.getElem?_append_right (by rw [List.length_take]; omega), List.getElem?_drop, List.length_take, show j + (i - min j new.length) = i by omega]
theorem partL_set {j : Nat} (d : α) (h : new.length = old.length) (hj : j < old.length) : (partL old new j).set j (new.getD j d) = partL old new (j + 1) := by
  apply List.ext_getElem?
  intro i
  have l1 := partL_len h j
  have l2 := partL_len h (j + 1)
  by_cases hi : i < old.length
  · have g1 : ∀ (l : List α), i < l.length → l[i]? = some (l.getD i d) := fun l hl => by rw [List.getD, List.getElem?_eq_getElem hl]; rfl
    rw [g1 _ (by rw [List.length_set]; omega), g1 _ (by omega)]
    congr 1
    simp only [List.getD, List.getElem?_set]
    by_cases e : j = i
    · subst e
      rw [if_pos rfl, if_pos (by omega)]
      exact (partL_lt d h (by omega) (Nat.lt_succ_self j)).symm
    · rw [if_neg e]
      rcases Nat.lt_or_ge i j with h1 | h1
      · exact (partL_lt d h (by omega) h1).trans (partL_lt d h (by omega) (by omega)).symm
      · exact (partL_ge d h (by omega) h1).trans (partL_ge d h (by omega) (by omega)).symm
  · rw [List.getElem?_eq_none (by rw [List.length_set]; omega), List.getElem?_eq_none (by omega)]
end
theorem lessR_len (q t : Int) (row piv : List Int) : (lessR q t row piv).length = row.length := by simp [lessR]
theorem lessR_at (q t : Int) (row piv : List Int) (j : Nat) (h : j < row.length) : (lessR q t row piv).getD j 0 = subI q (row.getD j 0) (mulI q t (piv.getD j 0)) := by
  simp [lessR, List.getD, h]
theorem normR_len (q inv : Int) (row : List Int) : (normR q inv row).length = row.length := by simp [normR]
theorem normR_at (q inv : Int) (row : List Int) (j : Nat) (h : j < row.length) : (normR q inv row).getD j 0 = mulI q (row.getD j 0) inv := by
  simp [normR, List.getD, h]
theorem elimF_len (q : Int) (k col : Nat) (M : List (List Int)) : (elimF q k col M).length = M.length := by simp [elimF]
theorem elimF_at (q : Int) (k col : Nat) (M : List (List Int)) (i : Nat) (h : i < M.length) :
    (elimF q k col M).getD i [] = if i = k ∨ (M.getD i []).getD col 0 = 0 then M.getD i [] else lessR q ((M.getD i []).getD col 0) (M.getD i []) (M.getD k []) := by
  simp [elimF, List.getD, h]
theorem elimF_k (q : Int) (k col : Nat) (M : List (List Int)) (h : k < M.length) : (elimF q k col M).getD k [] = M.getD k [] := by
  rw [elimF_at q k col M k h, if_pos (.inl rfl)]
theorem elimF_wide (q : Int) (k col C : Nat) (M : List (List Int)) (h : ∀ i, i < M.length → (M.getD i []).length = C) (i : Nat) (hi : i < M.length) : ((elimF q k col M).getD i []).length = C := by
  rw [elimF_at q k col M i hi]
  split
  · exact h i hi
  · rw [lessR_len]; exact h i hi
theorem pickF_some {M : List (List Int)} {col k a : Nat} (h : pickF M col k = some a) : k ≤ a ∧ a < M.length ∧ (M.getD a []).getD col 0 ≠ 0 ∧ ∀ i, k ≤ i → i < a → (M.getD i []).getD col 0 = 0 := by
  unfold pickF at h
  have h1 := List.find?_some h
  have h2 := List.mem_range.1 (List.mem_of_find?_eq_some h)
  simp only [Bool.and_eq_true, decide_eq_true_eq, bne_iff_ne] at h1
  refine ⟨h1.1, h2, h1.2, fun i hi hia => ?_⟩
  obtain ⟨_, as, bs, he, hn⟩ := List.find?_eq_some_iff_append.1 h
  have hlen : as.length = a := by
    have e1 := congrArg (fun l : List Nat => l[as.length]?) he
    simp only [List.getElem?_append_right (Nat.le_refl _), Nat.sub_self, List.getElem?_cons_zero] at e1
    obtain ⟨hl, e2⟩ := List.getElem?_eq_some_iff.1 e1
    rw [List.getElem_range] at e2
    exact e2
  have hm : i ∈ as := by
    have e1 := congrArg (fun l : List Nat => l[i]?) he
    rw [List.getElem?_append_left (by omega)] at e1
    have hr : (List.range M.length)[i]? = some i := by rw [List.getElem?_range (by omega)]
    exact List.mem_of_getElem? (e1.symm.trans hr)
  have := hn i hm
  simp only [Bool.not_eq_true', Bool.and_eq_false_iff, decide_eq_false_iff_not, bne_eq_false_iff_eq] at this
  rcases this with h | h
  · omega
  · exact h
theorem pickF_none {M : List (List Int)} {col k : Nat} (h : pickF M col k = none) (i : Nat) (hk : k ≤ i) (hi : i < M.length) : (M.getD i []).getD col 0 = 0 := by
  unfold pickF at h
  have := List.find?_eq_none.1 h i (List.mem_range.2 hi)
  simpa [hk] using this
theorem pickF_of {M : List (List Int)} {col k a : Nat} (h1 : k ≤ a) (h2 : a < M.length) (h3 : (M.getD a []).getD col 0 ≠ 0) (h4 : ∀ i, k ≤ i → i < a → (M.getD i []).getD col 0 = 0) : pickF M col k = some a := by
  cases h : pickF M col k with
  | none => exact absurd (pickF_none h a h1 h2) h3
  | some b =>
    obtain ⟨b1, b2, b3, b4⟩ := pickF_some h
    rcases Nat.lt_trichotomy a b with hlt | rfl | hlt
    · exact absurd (b4 a h1 hlt) h3
    · rfl
    · exact absurd (h4 b b1 hlt) b3
theorem pickF_no {M : List (List Int)} {col k : Nat} (h : ∀ i, k ≤ i → i < M.length → (M.getD i []).getD col 0 = 0) : pickF M col k = none := by
  cases e : pickF M col k with
  | none => rfl
  | some b =>
    obtain ⟨b1, b2, b3, _⟩ := pickF_some e
    exact absurd (h b b1 b2) b3
end Go.Proofs.YtbllanmhbfnagaaDoor
namespace Go.Proofs.YtbllanmhbfnagaaDoor
/-- The sum over x < n. -/
def sumN : Nat → (Nat → Nat) → Nat
  | 0, _ => 0
  | n + 1, f => sumN n f + f n
/-- The sum over all vectors of k numbers less than p. -/
def sumV (p : Nat) : Nat → (List Nat → Nat) → Nat
  | 0, f => f []
  | k + 1, f => sumN p (fun a => sumV p k (fun t => f (a :: t)))
/-- The digits of a number, the lowest one first. -/
def digN (p : Nat) : Nat → Nat → List Nat
  | 0, _ => []
  | k + 1, n => n % p :: digN p k (n / p)
theorem sumN_cong {f g : Nat → Nat} : ∀ n, (∀ x, x < n → f x = g x) → sumN n f = sumN n g
  | 0, _ => rfl
  | n + 1, h => by rw [sumN, sumN, sumN_cong n (fun x hx => h x (Nat.lt_succ_of_lt hx)), h n (Nat.lt_succ_self n)]
theorem sumN_add (f g : Nat → Nat) : ∀ n, sumN n (fun x => f x + g x) = sumN n f + sumN n g
  | 0 => rfl
  | n + 1 => by simp only [sumN]; rw [sumN_add f g n]; omega
theorem sumN_mul (c : Nat) (f : Nat → Nat) : ∀ n, sumN n (fun x => c * f x) = c * sumN n f
  | 0 => rfl
  | n + 1 => by simp only [sumN]; rw [sumN_mul c f n, Nat.mul_add]
theorem sumN_const (c : Nat) : ∀ n, sumN n (fun _ => c) = n * c
  | 0 => by simp [sumN]
  | n + 1 => by simp only [sumN]; rw [sumN_const c n, Nat.succ_mul]
theorem sumN_zero (n : Nat) : sumN n (fun _ => 0) = 0 := by rw [sumN_const, Nat.mul_zero]
theorem sumN_swap (f : Nat → Nat → Nat) (m : Nat) : ∀ n, sumN n (fun a => sumN m (fun b => f a b)) = sumN m (fun b => sumN n (fun a => f a b))
  | 0 => by simp only [sumN]; rw [sumN_zero]
  | n + 1 => by simp only [sumN]; rw [sumN_swap f m n, sumN_add]
theorem sumN_app (f : Nat → Nat) (a : Nat) : ∀ b, sumN (a + b) f = sumN a f + sumN b (fun x => f (a + x))
  | 0 => rfl
  | b + 1 => by rw [show a + (b + 1) = (a + b) + 1 from rfl]; simp only [sumN]; rw [sumN_app f a b]; omega
theorem sumN_prod (f : Nat → Nat) (p : Nat) : ∀ m, sumN (m * p) f = sumN m (fun b => sumN p (fun a => f (b * p + a)))
  | 0 => by simp [sumN]
  | m + 1 => by rw [Nat.succ_mul, sumN_app, sumN_prod f p m]; rfl
theorem sumV_cong {p : Nat} : ∀ (k : Nat) {f g : List Nat → Nat}, (∀ v, v.length = k → (∀ x ∈ v, x < p) → f v = g v) → sumV p k f = sumV p k g
  | 0, f, g, h => h [] rfl (fun x hx => by cases hx)
  | k + 1, f, g, h => by
    simp only [sumV]
    refine sumN_cong p (fun a ha => sumV_cong k (fun t ht hl => h (a :: t) (by simp [ht]) (fun x hx => ?_)))
    rcases List.mem_cons.1 hx with rfl | hx
    · exact ha
    · exact hl x hx
theorem sumV_mul (p c : Nat) : ∀ (k : Nat) (f : List Nat → Nat), sumV p k (fun v => c * f v) = c * sumV p k f
  | 0, f => rfl
  | k + 1, f => by
    simp only [sumV]
    rw [← sumN_mul]
    exact sumN_cong p (fun a _ => sumV_mul p c k (fun t => f (a :: t)))
theorem sumV_swap (p n : Nat) : ∀ (k : Nat) (f : List Nat → Nat → Nat), sumV p k (fun v => sumN n (fun x => f v x)) = sumN n (fun x => sumV p k (fun v => f v x))
  | 0, f => rfl
  | k + 1, f => by
    simp only [sumV]
    rw [← sumN_swap]
    exact sumN_cong p (fun a _ => sumV_swap p n k (fun t x => f (a :: t) x))
theorem sumV_one (p : Nat) : ∀ k, sumV p k (fun _ => 1) = p ^ k
  | 0 => rfl
  | k + 1 => by
    simp only [sumV]
    rw [sumN_const, sumV_one p k, Nat.pow_succ, Nat.mul_comm]
/-- A coordinate summed over all its values counts each vector p times. -/
theorem sumV_avg (p : Nat) : ∀ (k j : Nat) (f : List Nat → Nat), j < k → sumV p k (fun v => sumN p (fun x => f (v.set j x))) = p * sumV p k f
  | 0, j, f, h => absurd h (Nat.not_lt_zero j)
  | k + 1, 0, f, _ => by
    simp only [sumV, List.set_cons_zero]
    rw [sumN_const, sumV_swap]
  | k + 1, j + 1, f, h => by
    simp only [sumV, List.set_cons_succ]
    rw [← sumN_mul]
    exact sumN_cong p (fun a _ => sumV_avg p k j (fun t => f (a :: t)) (by omega))
theorem sum_digits (p : Nat) (hp : 0 < p) : ∀ (k : Nat) (f : List Nat → Nat), sumN (p ^ k) (fun n => f (digN p k n)) = sumV p k f
  | 0, f => by simp [sumN, sumV, digN]
  | k + 1, f => by
    rw [Nat.pow_succ, sumN_prod, sumN_swap]
    simp only [sumV]
    refine sumN_cong p (fun a ha => ?_)
    rw [← sum_digits p hp k (fun t => f (a :: t))]
    refine sumN_cong _ (fun b _ => ?_)
    simp only [digN]
    rw [show (b * p + a) % p = a by rw [Nat.add_comm, Nat.add_mul_mod_self_right, Nat.mod_eq_of_lt ha], show (b * p + a) / p = b by rw [Nat.add_comm, Nat.add_mul_div_right _ _ hp, Nat.div_eq_of_lt ha, Nat.zero_add]]
theorem digN_len (p : Nat) : ∀ k n, (digN p k n).length = k
  | 0, _ => rfl
  | k + 1, n => by simp [digN, digN_len p k]
theorem digN_lt (p : Nat) (hp : 0 < p) : ∀ k n, ∀ x ∈ digN p k n, x < p
  | 0, _, x, hx => by cases hx
  | k + 1, n, x, hx => by
    rcases List.mem_cons.1 hx with rfl | hx
    · exact Nat.mod_lt _ hp
    · exact digN_lt p hp k _ x hx
/-- How many x < n are met. -/
def cntN (n : Nat) (f : Nat → Bool) : Nat := sumN n (fun x => (f x).toNat)
theorem cntN_succ (n : Nat) (f : Nat → Bool) : cntN (n + 1) f = cntN n f + (f n).toNat := rfl
theorem cntN_le (f : Nat → Bool) : ∀ n, cntN n f ≤ n
  | 0 => Nat.le_refl _
  | n + 1 => by rw [cntN_succ]; have := cntN_le f n; cases f n <;> simp <;> omega
/-- Exactly one. -/
theorem sumN_one {n : Nat} {f : Nat → Bool} {a : Nat} (ha : a < n) (h : ∀ x, x < n → (f x = true ↔ x = a)) : sumN n (fun x => (f x).toNat) = 1 := by
  induction n with
  | zero => omega
  | succ n ih =>
    simp only [sumN]
    by_cases e : a = n
    · have h0 : sumN n (fun x => (f x).toNat) = 0 := by
        rw [← sumN_zero n]
        refine sumN_cong n (fun x hx => ?_)
        cases hf : f x with
        | false => rfl
        | true => exact absurd ((h x (by omega)).1 hf) (by omega)
      rw [h0, (h n (by omega)).2 e.symm]; rfl
    · have hn : f n = false := by
        cases hf : f n with
        | false => rfl
        | true => exact absurd ((h n (by omega)).1 hf).symm e
      rw [hn, ih (by omega) (fun x hx => h x (by omega))]; rfl
end Go.Proofs.YtbllanmhbfnagaaDoor
