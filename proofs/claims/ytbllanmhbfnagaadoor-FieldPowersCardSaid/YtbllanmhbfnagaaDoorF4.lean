/- Plain laws: the ring modulo n (no program in sight). -/
import Derived.Test.YtbllanmhbfnagaaDoorF1
set_option linter.unusedVariables false
set_option linter.unusedSimpArgs false
namespace Go.Proofs.YtbllanmhbfnagaaDoor
theorem sub_mod_l (a b n : Int) : (a % n - b) % n = (a - b) % n := by rw [Int.sub_emod, Int.emod_emod_of_dvd _ (Int.dvd_refl n), ← Int.sub_emod]
theorem add_mod_l (a b n : Int) : (a % n + b) % n = (a + b) % n := by rw [Int.add_emod, Int.emod_emod_of_dvd _ (Int.dvd_refl n), ← Int.add_emod]
theorem add_mod_r (a b n : Int) : (a + b % n) % n = (a + b) % n := by rw [Int.add_emod, Int.emod_emod_of_dvd _ (Int.dvd_refl n), ← Int.add_emod]
theorem mod_mod (a n : Int) : a % n % n = a % n := Int.emod_emod_of_dvd _ (Int.dvd_refl n)
/-- WHAT FieldRing asks of a modulus. -/
theorem ring_facts (n a b c : Int) (h : modB n = true) :
    addI n b a = addI n a b ∧ mulI n b a = mulI n a b ∧ subI n (addI n a b) b = addI n a 0 ∧ subI n a a = 0 ∧
    addI n a (addI n b c) = addI n (addI n a b) c ∧ mulI n a (mulI n b c) = mulI n (mulI n a b) c ∧ addI n (mulI n a c) (mulI n b c) = mulI n (addI n a b) c ∧
    mulI n a 1 = addI n a 0 ∧ mulI n a (-1) = subI n 0 a := by
  simp only [addI_of h, mulI_of h, subI_of h, sub_mod_l, add_mod_l, add_mod_r, mul_mod_l, mul_mod_r]
  refine ⟨?_, ?_, ?_, ?_, ?_, ?_, ?_, ?_, ?_⟩
  · rw [Int.add_comm]
  · rw [Int.mul_comm]
  · congr 1; omega
  · simp
  · congr 1; omega
  · rw [Int.mul_assoc]
  · rw [Int.add_mul]
  · congr 1; omega
  · congr 1; omega
theorem ring_bd (n a b : Int) (h : modB n = true) : 0 ≤ addI n a b ∧ addI n a b < n ∧ 0 ≤ mulI n a b ∧ mulI n a b < n := by
  have h1 := (modB_iff.1 h).1
  rw [addI_of h, mulI_of h]
  exact ⟨(emod_bd _ _ h1).1, (emod_bd _ _ h1).2, (emod_bd _ _ h1).1, (emod_bd _ _ h1).2⟩
theorem ring_none (n a b : Int) (h : modB n = false) : addI n a b = 0 ∧ subI n a b = 0 ∧ mulI n a b = 0 ∧ powS n a b = 0 ∧ invO n a = none := by
  simp [addI, subI, mulI, powS, invO, h]
theorem powI_add (n a : Int) (j k : Nat) : powI n a (j + k) = powI n a j * powI n a k % n := by
  unfold powI; rw [mul_mod_l, mul_mod_r, Int.pow_add]
theorem powI_mul (n a : Int) (j k : Nat) : powI n a (j * k) = powI n (powI n a j) k := by
  unfold powI; rw [pow_mod, Int.pow_mul]
theorem powI_one (n a : Int) : powI n a 1 = a % n := by unfold powI; rw [show (1 : Nat) = 0 + 1 from rfl, Int.pow_succ, Int.pow_zero, Int.one_mul]
theorem powI_zero (n a : Int) : powI n a 0 = 1 % n := by unfold powI; rw [Int.pow_zero]
theorem one_powI (n : Int) (k : Nat) : powI n (1 % n) k = 1 % n := by rw [powI_mod]; unfold powI; rw [Int.one_pow]
theorem powI_mulb (n a b : Int) (k : Nat) : powI n (a * b % n) k = powI n a k * powI n b k % n := by
  unfold powI; rw [pow_mod, mul_mod_l, mul_mod_r, Int.mul_pow]
end Go.Proofs.YtbllanmhbfnagaaDoor
