/- Plain laws: the small groups (no program in sight): squares, elements, powers, for every q up to 200. -/
import Derived.Test.YtbllanmhbfnagaaDoorF5
import Derived.Test.YtbllanmhbfnagaaDoorF6
import Derived.Test.YtbllanmhbfnagaaDoorF7
set_option linter.unusedVariables false
set_option linter.unusedSimpArgs false
namespace Go.Proofs.YtbllanmhbfnagaaDoor
/-- The orders of groups up to 200. -/
def cqs : List Nat := [5, 11, 23, 29, 41, 53, 83, 89, 113, 131, 173, 179, 191]
theorem cq_of (q : Nat) (h : q < 201) (hv : vgB (2 * (q : Int) + 1) q 4 = true) : q ∈ cqs := by
  have h1 : ∀ q : Fin 201, vgB (2 * ((q.val : Nat) : Int) + 1) ((q.val : Nat) : Int) 4 = true → q.val ∈ cqs := by decide +kernel
  exact h1 ⟨q, h⟩ hv
/-- The squares of 1 to k, as bits. -/
def sqN (P : Nat) : Nat → Nat
  | 0 => 0
  | k + 1 => sqN P k ||| (1 <<< (((k + 1) * (k + 1)) % P))
/-- The squares of 1 to k, as a table. -/
def sqL (P : Nat) : Nat → List Bool
  | 0 => List.replicate 403 false
  | k + 1 => (sqL P k).set (((k + 1) * (k + 1)) % P) true
theorem sqL_len (P k : Nat) : (sqL P k).length = 403 := by
  induction k with
  | zero => exact List.length_replicate
  | succ k ih => rw [sqL, List.length_set, ih]
theorem testBit_one_shl (i j : Nat) : Nat.testBit (1 <<< i) j = decide (i = j) := by
  rw [Nat.testBit_shiftLeft]
  by_cases h : i = j
  · subst h; simp
  · rw [decide_eq_false h]
    by_cases h2 : i ≤ j
    · rw [decide_eq_true (by omega : j ≥ i), Bool.true_and]
      obtain ⟨d, hd⟩ : ∃ d, j - i = d + 1 := ⟨j - i - 1, by omega⟩
      rw [hd, Nat.testBit_succ]
      simp
    · rw [decide_eq_false (by omega : ¬ j ≥ i), Bool.false_and]
theorem sqL_bit (P k j : Nat) (hP : P ≤ 403) (h0 : 0 < P) (hj : j < 403) : (sqL P k).getD j false = Nat.testBit (sqN P k) j := by
  induction k with
  | zero =>
    simp only [sqL, sqN, List.getD, List.getElem?_replicate, Nat.zero_testBit]
    split <;> rfl
  | succ k ih =>
    rw [sqL, sqN, Nat.testBit_or, ← ih, testBit_one_shl]
    have hlt : ((k + 1) * (k + 1)) % P < 403 := by have := Nat.mod_lt ((k + 1) * (k + 1)) h0; omega
    simp only [List.getD, List.getElem?_set]
    by_cases h : ((k + 1) * (k + 1)) % P = j
    · rw [if_pos h, if_pos (by rw [sqL_len]; omega), decide_eq_true h]; simp
    · rw [if_neg h, decide_eq_false h]; simp
/-- An element, as numbers tell. -/
def eln (q x : Nat) : Bool := decide (1 ≤ x) && decide (x < 2 * q + 1) && (x ^ q % (2 * q + 1) == 1)
def elF (q n : Nat) : List Nat := (List.range n).filter (eln q)
def noOne (P x : Nat) : Nat → Nat → Bool
  | 0, _ => true
  | f + 1, y => (y != 1) && noOne P x f (y * x % P)
def chkA (q : Nat) : Bool := (List.range (2 * q + 2)).all fun x => eln q x == (decide (x < 2 * q + 1) && Nat.testBit (sqN (2 * q + 1) (2 * q)) x)
def chkB (q : Nat) : Bool := ((elF q (2 * q + 2)).length == q) && ((elF q (2 * q + 2))[0]? == some 1)
def chkC (q : Nat) : Bool := (elF q (2 * q + 2)).tail.all fun x => noOne (2 * q + 1) x (q - 1) x
theorem chkA_all : cqs.all chkA = true := by decide +kernel
theorem chkB_all : cqs.all chkB = true := by decide +kernel
theorem chkC_all : cqs.all chkC = true := by decide +kernel
theorem noOne_at (P x : Nat) (hP : 1 < P) : ∀ (f y : Nat), noOne P x f y = true → y < P → ∀ d, d < f → y * x ^ d % P ≠ 1
  | 0, _, _, _ => fun d hd => absurd hd (Nat.not_lt_zero d)
  | f + 1, y, h, hy => fun d hd => by
    rw [noOne, Bool.and_eq_true, bne_iff_ne] at h
    cases d with
    | zero => rw [Nat.pow_zero, Nat.mul_one, Nat.mod_eq_of_lt hy]; exact h.1
    | succ d =>
      have := noOne_at P x hP f (y * x % P) h.2 (Nat.mod_lt _ (by omega)) d (by omega)
      intro he
      apply this
      rw [Nat.mod_mul_mod, Nat.mul_assoc, Nat.mul_comm x, ← Nat.pow_succ]
      exact he
/-- The power number k of x. -/
def yk (q x k : Nat) : Nat := x ^ k % (2 * q + 1)
theorem yk_lt (q x k : Nat) : yk q x k < 2 * q + 1 := Nat.mod_lt _ (by omega)
theorem eln_iff (q x : Nat) : eln q x = true ↔ 1 ≤ x ∧ x < 2 * q + 1 ∧ x ^ q % (2 * q + 1) = 1 := by
  unfold eln; simp [and_assoc]
theorem yk_el (q x k : Nat) (hq : 2 ≤ q) (hx : eln q x = true) : eln q (yk q x k) = true := by
  obtain ⟨h1, h2, h3⟩ := (eln_iff q x).1 hx
  have h4 : (yk q x k) ^ q % (2 * q + 1) = 1 := by
    unfold yk
    rw [← Nat.pow_mod, ← Nat.pow_mul, Nat.mul_comm, Nat.pow_mul, Nat.pow_mod, h3, Nat.one_pow, Nat.mod_eq_of_lt (by omega)]
  refine (eln_iff q _).2 ⟨?_, yk_lt q x k, h4⟩
  rcases Nat.eq_zero_or_pos (yk q x k) with h | h
  · rw [h, Nat.zero_pow (by omega), Nat.zero_mod] at h4; omega
  · exact h
theorem yk_ne (q x : Nat) (hq : 2 ≤ q) (hx : eln q x = true) (hn : noOne (2 * q + 1) x (q - 1) x = true) (j k : Nat) (hj : j < k) (hk : k < q) : yk q x j ≠ yk q x k := by
  obtain ⟨h1, h2, h3⟩ := (eln_iff q x).1 hx
  intro he
  refine noOne_at (2 * q + 1) x (by omega) (q - 1) x hn h2 (k - j - 1) (by omega) ?_
  have e1 : x * x ^ (k - j - 1) = x ^ (k - j) := by rw [Nat.mul_comm, ← Nat.pow_succ, show (k - j - 1).succ = k - j by omega]
  rw [e1]
  have e2 : x ^ k * x ^ (q - j) = x ^ (k - j) * x ^ q := by rw [← Nat.pow_add, ← Nat.pow_add, show k + (q - j) = k - j + q by omega]
  have e3 : x ^ j * x ^ (q - j) = x ^ q := by rw [← Nat.pow_add, show j + (q - j) = q by omega]
  have e4 : x ^ k * x ^ (q - j) % (2 * q + 1) = x ^ (k - j) % (2 * q + 1) := by rw [e2, Nat.mul_mod, h3, Nat.mul_one, Nat.mod_mod]
  have e5 : x ^ j * x ^ (q - j) % (2 * q + 1) = 1 := by rw [e3, h3]
  unfold yk at he
  rw [Nat.mul_mod, he, ← Nat.mul_mod, e4] at e5
  exact e5
theorem elF_succ (q n : Nat) : elF q (n + 1) = if eln q n then elF q n ++ [n] else elF q n := by
  unfold elF
  rw [List.range_succ, List.filter_append]
  cases h : eln q n <;> simp [h]
theorem elF_len_le (q n : Nat) : (elF q n).length ≤ n := by
  unfold elF
  exact Nat.le_trans (List.length_filter_le _ _) (by simp)
theorem elF_mem {q n x : Nat} (h : x ∈ elF q n) : x < n ∧ eln q x = true := by
  unfold elF at h
  have := List.mem_filter.1 h
  exact ⟨List.mem_range.1 this.1, this.2⟩
/-- Where the powers have been so far. -/
def metL (q x : Nat) : Nat → List Bool
  | 0 => List.replicate 403 false
  | k + 1 => (metL q x k).set (yk q x k) true
theorem metL_len (q x k : Nat) : (metL q x k).length = 403 := by
  induction k with
  | zero => exact List.length_replicate
  | succ k ih => rw [metL, List.length_set, ih]
theorem metL_no (q x y : Nat) : ∀ k, (∀ j, j < k → yk q x j ≠ y) → (metL q x k).getD y false = false
  | 0, _ => by
    simp only [metL, List.getD, List.getElem?_replicate]
    split <;> rfl
  | k + 1, h => by
    have ih := metL_no q x y k (fun j hj => h j (by omega))
    have hk := h k (by omega)
    simp only [metL, List.getD, List.getElem?_set, if_neg hk]
    exact ih
theorem cq_bd {q : Nat} (h : q ∈ cqs) : 5 ≤ q ∧ q ≤ 191 := by
  have h1 : ∀ q ∈ cqs, 5 ≤ q ∧ q ≤ 191 := by decide
  exact h1 q h
theorem cyc_sq {q : Nat} (h : q ∈ cqs) (x : Nat) (hx : x < 2 * q + 2) : eln q x = (decide (x < 2 * q + 1) && (sqL (2 * q + 1) (2 * q)).getD x false) := by
  have hb := cq_bd h
  have h1 := List.all_eq_true.1 chkA_all q h
  have h2 := List.all_eq_true.1 h1 x (List.mem_range.2 hx)
  rw [sqL_bit _ _ _ (by omega) (by omega) (by omega)]
  exact beq_iff_eq.1 h2
theorem cyc_len {q : Nat} (h : q ∈ cqs) : (elF q (2 * q + 2)).length = q ∧ (elF q (2 * q + 2)).getD 0 0 = 1 := by
  have h1 := List.all_eq_true.1 chkB_all q h
  unfold chkB at h1
  rw [Bool.and_eq_true, beq_iff_eq, beq_iff_eq] at h1
  exact ⟨h1.1, by rw [List.getD, h1.2]; rfl⟩
theorem cyc_no {q : Nat} (h : q ∈ cqs) (i : Nat) (hi : i + 1 < q) : noOne (2 * q + 1) ((elF q (2 * q + 2)).getD (i + 1) 0) (q - 1) ((elF q (2 * q + 2)).getD (i + 1) 0) = true := by
  have h1 := List.all_eq_true.1 chkC_all q h
  have hl := (cyc_len h).1
  unfold chkC at h1
  refine List.all_eq_true.1 h1 _ ?_
  rw [List.getD, List.getElem?_eq_getElem (by omega), Option.getD_some]
  have e : (elF q (2 * q + 2))[i + 1]'(by omega) = (elF q (2 * q + 2)).tail[i]'(by rw [List.length_tail]; omega) := by simp
  rw [e]
  exact List.getElem_mem _
theorem elF_getD {q n : Nat} (i : Nat) (hi : i < (elF q n).length) : (elF q n).getD i 0 < n ∧ eln q ((elF q n).getD i 0) = true := by
  refine elF_mem ?_
  rw [List.getD, List.getElem?_eq_getElem hi, Option.getD_some]
  exact List.getElem_mem _
theorem vg_cq {q : Nat} (h : q ∈ cqs) : vgB (2 * (q : Int) + 1) q 4 = true := by
  have h1 : ∀ q ∈ cqs, vgB (2 * ((q : Nat) : Int) + 1) ((q : Nat) : Int) 4 = true := by decide +kernel
  exact h1 q h
theorem powI_nat (n a k : Nat) : powI (n : Int) (a : Int) k = ((a ^ k % n : Nat) : Int) := by
  unfold powI; rw [Int.natCast_emod, Int.natCast_pow]
theorem mod_ok {q : Nat} (h : q ∈ cqs) : modB (2 * (q : Int) + 1) = true ∧ modB (q : Int) = true := by
  have hb := cq_bd h
  exact ⟨modB_iff.2 ⟨by omega, by omega⟩, modB_iff.2 ⟨by omega, by omega⟩⟩
theorem elB_nat {q : Nat} (h : q ∈ cqs) (x : Nat) : elB (2 * (q : Int) + 1) q 4 x = eln q x := by
  unfold elB eln
  rw [vg_cq h, Bool.and_true, powS_nn (mod_ok h).1 (by omega), show (2 * (q : Int) + 1) = ((2 * q + 1 : Nat) : Int) by omega, show (q : Int).toNat = q by omega, powI_nat]
  have e1 : decide ((1 : Int) ≤ (x : Int)) = decide (1 ≤ x) := decide_eq_decide.2 (by omega)
  have e2 : decide ((x : Int) < ((2 * q + 1 : Nat) : Int)) = decide (x < 2 * q + 1) := decide_eq_decide.2 (by omega)
  have e3 : (((x ^ q % (2 * q + 1) : Nat) : Int) == 1) = (x ^ q % (2 * q + 1) == 1) := by
    rw [Bool.eq_iff_iff, beq_iff_eq, beq_iff_eq]; omega
  rw [e1, e2, e3]
theorem gp_nat {q : Nat} (h : q ∈ cqs) (x k : Nat) (hk : k < q) : gpI (2 * (q : Int) + 1) q x k = (yk q x k : Nat) := by
  unfold gpI
  rw [(mod_ok h).1, (mod_ok h).2, show (2 * (q : Int) + 1) = ((2 * q + 1 : Nat) : Int) by omega, show ((k : Int) % (q : Int)).toNat = k by rw [← Int.natCast_emod, Nat.mod_eq_of_lt hk]; omega]
  exact powI_nat _ _ _
theorem gp_last {q : Nat} (h : q ∈ cqs) (x : Nat) : gpI (2 * (q : Int) + 1) q x q = 1 := by
  unfold gpI
  have hb := cq_bd h
  rw [(mod_ok h).1, (mod_ok h).2, Int.emod_self, show (0 : Int).toNat = 0 from rfl, powI_zero]
  exact Int.emod_eq_of_lt (by omega) (by omega)
end Go.Proofs.YtbllanmhbfnagaaDoor
