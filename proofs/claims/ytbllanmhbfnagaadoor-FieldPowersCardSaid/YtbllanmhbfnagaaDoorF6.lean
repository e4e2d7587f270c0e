/- Plain laws: elements of order Q modulo P (no program in sight). -/
import Derived.Test.YtbllanmhbfnagaaDoorF5
set_option linter.unusedVariables false
set_option linter.unusedSimpArgs false
namespace Go.Proofs.YtbllanmhbfnagaaDoor
/-- A modulus and an order. -/
structure PQ (P Q : Int) : Prop where
  p : modB P = true
  q : modB Q = true
  p2 : 2 ≤ P
  q1 : 1 ≤ Q
/-- Power with the exponent modulo Q. -/
def pwI (P Q x k : Int) : Int := powI P x (k % Q).toNat
structure El (P Q x : Int) : Prop where
  lo : 0 ≤ x
  hi : x < P
  one : powI P x Q.toNat = 1
theorem one_mod {P : Int} (h : 2 ≤ P) : 1 % P = 1 := Int.emod_eq_of_lt (by omega) (by omega)
theorem powI_period {P Q x : Int} (hP : 2 ≤ P) (h : powI P x Q.toNat = 1) (a c : Nat) : powI P x (a + Q.toNat * c) = powI P x a := by
  rw [powI_add, powI_mul, h]
  have h1 : powI P 1 c = 1 := by unfold powI; rw [Int.one_pow]; exact one_mod hP
  rw [h1, Int.mul_one]; unfold powI; rw [mod_mod]
/-- Exponents count modulo Q. -/
theorem powI_cong {P Q x : Int} (hP : 2 ≤ P) (hQ : 1 ≤ Q) (h : powI P x Q.toNat = 1) {a b : Int} (ha : 0 ≤ a) (hb : a % Q = b % Q) : powI P x a.toNat = powI P x (b % Q).toNat := by
  rw [← hb]
  have e := Int.emod_add_mul_ediv a Q
  have h0 : 0 ≤ a / Q := Int.ediv_nonneg ha (by omega)
  have h1 := emod_bd a Q hQ
  have e2 : a.toNat = (a % Q).toNat + Q.toNat * (a / Q).toNat := by
    rw [← Int.toNat_mul (by omega) h0, ← Int.toNat_add (by omega) (Int.mul_nonneg (by omega) h0), e]
  rw [e2, powI_period hP h]
theorem El.pos {P Q x : Int} (h : El P Q x) (g : PQ P Q) : 1 ≤ x := by
  rcases Int.lt_or_le x 1 with hx | hx
  · have h0 : x = 0 := by have := h.lo; omega
    have h1 := h.one
    have h2 := g.p2
    have h3 := g.q1
    subst h0
    obtain ⟨m, hm⟩ : ∃ m : Nat, Q.toNat = m + 1 := ⟨Q.toNat - 1, by omega⟩
    rw [hm, powI_succ, Int.mul_zero, Int.zero_emod] at h1
    omega
  · exact hx
theorem pwI_bd {P Q : Int} (g : PQ P Q) (x k : Int) : 0 ≤ pwI P Q x k ∧ pwI P Q x k < P := powI_bd (by have := g.p2; omega) _ _
theorem El.pw {P Q x : Int} (h : El P Q x) (g : PQ P Q) (k : Int) : El P Q (pwI P Q x k) := by
  refine ⟨(pwI_bd g x k).1, (pwI_bd g x k).2, ?_⟩
  unfold pwI
  rw [← powI_mul, Nat.mul_comm, powI_mul, h.one]
  unfold powI; rw [Int.one_pow]; exact one_mod g.p2
theorem El.mul {P Q x y : Int} (hx : El P Q x) (hy : El P Q y) (g : PQ P Q) : El P Q (x * y % P) := by
  have h1 := g.p2
  refine ⟨(emod_bd _ _ (by omega)).1, (emod_bd _ _ (by omega)).2, ?_⟩
  rw [powI_mulb, hx.one, hy.one]; exact one_mod g.p2
theorem El.inv {P Q y : Int} (hy : El P Q y) (g : PQ P Q) : ∃ z, invO P y = some z ∧ El P Q z ∧ y * z % P = 1 := by
  have h1 := g.p2
  have h2 := g.q1
  have hb := powI_bd (n := P) (by omega) y (Q.toNat - 1)
  have hm : y * powI P y (Q.toNat - 1) % P = 1 := by
    have := hy.one
    rw [show Q.toNat = Q.toNat - 1 + 1 by omega, powI_succ, Int.mul_comm] at this
    exact this
  refine ⟨powI P y (Q.toNat - 1), invO_of g.p hb.1 hb.2 (by rw [hm, one_mod g.p2]), ⟨hb.1, hb.2, ?_⟩, hm⟩
  rw [← powI_mul, Nat.mul_comm, powI_mul, hy.one]
  unfold powI; rw [Int.one_pow]; exact one_mod g.p2
theorem pw_cong {P Q x : Int} (g : PQ P Q) (hx : El P Q x) {a k : Int} (ha : 0 ≤ a) (h : a % Q = k % Q) : powI P x a.toNat = pwI P Q x k := powI_cong g.p2 g.q1 hx.one ha h
theorem pw_mod {P Q : Int} (x k : Int) : pwI P Q x (k % Q) = pwI P Q x k := by unfold pwI; rw [mod_mod]
theorem pw_add {P Q x : Int} (g : PQ P Q) (hx : El P Q x) (k m : Int) : pwI P Q x (k + m) = pwI P Q x k * pwI P Q x m % P := by
  have h1 := g.q1
  have hk := emod_bd k Q g.q1
  have hm := emod_bd m Q g.q1
  rw [← pw_cong g hx (a := k % Q + m % Q) (by omega) (by rw [← Int.add_emod]), Int.toNat_add hk.1 hm.1, powI_add]; rfl
theorem pw_mul {P Q x : Int} (g : PQ P Q) (hx : El P Q x) (k m : Int) : pwI P Q x (k * m) = pwI P Q (pwI P Q x k) m := by
  have hk := emod_bd k Q g.q1
  have hm := emod_bd m Q g.q1
  rw [← pw_cong g hx (a := (k % Q) * (m % Q)) (Int.mul_nonneg hk.1 hm.1) (by rw [← Int.mul_emod]), Int.toNat_mul hk.1 hm.1, powI_mul]; rfl
theorem pw_mulb {P Q : Int} (x y k : Int) : pwI P Q (x * y % P) k = pwI P Q x k * pwI P Q y k % P := powI_mulb _ _ _ _
/-- WHAT FieldExponents asks of two elements. -/
theorem expo_facts {P Q G : Int} (g : PQ P Q) (hG : El P Q G) (i j k m : Int) {x y : Int} (hx' : pwI P Q G i = x) (hy' : pwI P Q G j = y) :
    El P Q x ∧ El P Q y ∧ El P Q (mulI P x y) ∧ El P Q (mulI P x (invI P y)) ∧ El P Q (pwI P Q x k) ∧ mulI P (mulI P x (invI P y)) y = x ∧ mulI P (mulI P x y) (invI P y) = x ∧
    pwI P Q x (addI Q k 0) = pwI P Q x k ∧ pwI P Q x (addI Q k m) = mulI P (pwI P Q x k) (pwI P Q x m) ∧ pwI P Q x (mulI Q k m) = pwI P Q (pwI P Q x k) m ∧
    pwI P Q (mulI P x y) k = mulI P (pwI P Q x k) (pwI P Q y k) ∧ mulI P (1 % P) (pwI P Q x k) = pwI P Q x k ∧ pwI P Q G (addI Q i j) = mulI P x y := by
  subst hx' hy'
  have hx := hG.pw g i
  have hy := hG.pw g j
  have hij := pw_add g hG i j
  generalize pwI P Q G i = x at *
  generalize pwI P Q G j = y at *
  obtain ⟨z, hz, ez, hyz⟩ := hy.inv g
  have hI : invI P y = z := by unfold invI; rw [hz]; rfl
  have hyz' : z * y % P = 1 := by rw [Int.mul_comm]; exact hyz
  simp only [hI, mulI_of g.p, mulI_of g.q, addI_of g.q, pw_mod, Int.add_zero]
  refine ⟨hx, hy, hx.mul hy g, hx.mul ez g, hx.pw g k, ?_, ?_, trivial, pw_add g hx k m, pw_mul g hx k m, pw_mulb x y k, ?_, hij⟩
  · rw [mul_mod_l, Int.mul_assoc, ← mul_mod_r, hyz', Int.mul_one, Int.emod_eq_of_lt hx.lo hx.hi]
  · rw [mul_mod_l, Int.mul_assoc, ← mul_mod_r, hyz, Int.mul_one, Int.emod_eq_of_lt hx.lo hx.hi]
  · rw [mul_mod_l, Int.one_mul, Int.emod_eq_of_lt (pwI_bd g x k).1 (pwI_bd g x k).2]
end Go.Proofs.YtbllanmhbfnagaaDoor
