/- Plain laws: powers with integers as exponents (no program in sight). -/
import Derived.Test.YtbllanmhbfnagaaDoorF4
set_option linter.unusedVariables false
set_option linter.unusedSimpArgs false
namespace Go.Proofs.YtbllanmhbfnagaaDoor
theorem inv_facts (n a : Int) (h : modB n = true) : 0 ≤ invI n a ∧ invI n a < n ∧ (invB n a = true → mulI n a (invI n a) = 1 % n) ∧ (invB n a = false → invI n a = 0) := by
  have h1 := (modB_iff.1 h).1
  unfold invI invB
  cases hx : invO n a with
  | none => exact ⟨by simp, by simp; omega, by simp, by simp⟩
  | some x =>
    obtain ⟨_, h2, h3, h4⟩ := invO_some hx
    exact ⟨by simpa using h2, by simpa using h3, fun _ => by rw [mulI_of h]; simpa using h4, by simp⟩
theorem powS_nn {n a b : Int} (h : modB n = true) (hb : 0 ≤ b) : powS n a b = powI n a b.toNat := by unfold powS; rw [if_pos h, if_pos hb]
theorem powS_none {n a b : Int} (h : modB n = true) (hi : invO n a = none) (hb : b < 0) : powS n a b = 0 := by unfold powS; rw [if_pos h, if_neg (by omega), hi]
theorem powS_neg {n a b x : Int} (h : modB n = true) (hi : invO n a = some x) (hb : b < 0) : powS n a b = powI n x (-b).toNat := by unfold powS; rw [if_pos h, if_neg (by omega), hi]
theorem powS_n1 (n a : Int) (h : modB n = true) : powS n a (-1) = invI n a := by
  unfold invI
  cases hx : invO n a with
  | none => rw [powS_none h hx (by omega)]; rfl
  | some x =>
    obtain ⟨_, h2, h3, _⟩ := invO_some hx
    rw [powS_neg h hx (by omega)]
    show powI n x 1 = x
    rw [powI_one, Int.emod_eq_of_lt h2 h3]
theorem powI_succ (n a : Int) (k : Nat) : powI n a (k + 1) = powI n a k * a % n := by
  rw [powI_add, powI_one, mul_mod_r]
theorem powS_succ {n a x : Int} (h : modB n = true) (hi : invO n a = some x) (j : Int) : powS n a (j + 1) = powS n a j * a % n := by
  obtain ⟨_, h2, h3, h4⟩ := invO_some hi
  have h4' : x * a % n = 1 % n := by rw [Int.mul_comm]; exact h4
  rcases Int.lt_or_le j 0 with hj | hj
  · rw [powS_neg h hi hj]
    obtain ⟨m, hm⟩ : ∃ m : Nat, (-j).toNat = m + 1 := ⟨(-j).toNat - 1, by omega⟩
    rw [hm, powI_succ, mul_mod_l, Int.mul_assoc, ← mul_mod_r, h4', mul_mod_r, Int.mul_one]
    rcases Int.lt_or_le (j + 1) 0 with hj1 | hj1
    · rw [powS_neg h hi hj1, show (-(j + 1)).toNat = m by omega]
      unfold powI; rw [mod_mod]
    · rw [powS_nn h hj1, show (j + 1).toNat = 0 by omega, show m = 0 by omega, powI_zero, powI_zero, mod_mod]
  · rw [powS_nn h hj, powS_nn h (by omega), show (j + 1).toNat = j.toNat + 1 by omega, powI_succ]
theorem powS_bdn (n a b : Int) (h : modB n = true) : 0 ≤ powS n a b ∧ powS n a b < n := by
  have h1 := (modB_iff.1 h).1
  unfold powS
  rw [if_pos h]
  split
  · exact powI_bd h1 _ _
  · split
    · omega
    · exact powI_bd h1 _ _
theorem powS_mod (n a b : Int) (h : modB n = true) : powS n a b % n = powS n a b := Int.emod_eq_of_lt (powS_bdn n a b h).1 (powS_bdn n a b h).2
theorem powS_pred {n a x : Int} (h : modB n = true) (hi : invO n a = some x) (j : Int) : powS n a (j - 1) = powS n a j * x % n := by
  obtain ⟨_, h2, h3, h4⟩ := invO_some hi
  have hs := powS_succ h hi (j - 1)
  rw [show j - 1 + 1 = j by omega] at hs
  rw [hs, mul_mod_l, Int.mul_assoc, ← mul_mod_r, h4, mul_mod_r, Int.mul_one, powS_mod _ _ _ h]
theorem int_ind {P : Int → Prop} (zero : P 0) (succ : ∀ k, P k → P (k + 1)) (pred : ∀ k, P k → P (k - 1)) (k : Int) : P k := by
  have h1 : ∀ m : Nat, P (m : Int) := fun m => by
    induction m with
    | zero => exact zero
    | succ m ih => exact succ _ ih
  have h2 : ∀ m : Nat, P (-(m : Int)) := fun m => by
    induction m with
    | zero => exact zero
    | succ m ih => rw [show -(((m + 1 : Nat)) : Int) = -(m : Int) - 1 by omega]; exact pred _ ih
  rcases Int.lt_or_le k 0 with hk | hk
  · have := h2 (-k).toNat
    rwa [show -(((-k).toNat : Nat) : Int) = k by omega] at this
  · have := h1 k.toNat
    rwa [show ((k.toNat : Nat) : Int) = k by omega] at this
/-- A sum of exponents. -/
theorem powS_add {n a x : Int} (h : modB n = true) (hi : invO n a = some x) (j k : Int) : powS n a (j + k) = powS n a j * powS n a k % n := by
  induction k using int_ind with
  | zero => rw [Int.add_zero, powS_nn (b := 0) h (by omega)]; show _ = powS n a j * powI n a 0 % n; rw [powI_zero, mul_mod_r, Int.mul_one, powS_mod _ _ _ h]
  | succ k ih => rw [← Int.add_assoc, powS_succ h hi, ih, powS_succ h hi, mul_mod_l, mul_mod_r, Int.mul_assoc]
  | pred k ih => rw [← Int.add_sub_assoc, powS_pred h hi, ih, powS_pred h hi, mul_mod_l, mul_mod_r, Int.mul_assoc]
theorem powS_unit {n a x : Int} (h : modB n = true) (hi : invO n a = some x) (j : Int) : invO n (powS n a j) = some (powS n a (-j)) := by
  have hb := powS_bdn n a (-j) h
  refine invO_of h hb.1 hb.2 ?_
  rw [← powS_add h hi, show j + -j = 0 by omega, powS_nn h (by omega)]
  show powI n a 0 = _
  rw [powI_zero]
/-- A product of exponents. -/
theorem powS_mul {n a x : Int} (h : modB n = true) (hi : invO n a = some x) (j k : Int) : powS n a (j * k) = powS n (powS n a j) k := by
  have hu := powS_unit h hi j
  induction k using int_ind with
  | zero => rw [Int.mul_zero, powS_nn h (by omega), powS_nn h (by omega)]; show powI n a 0 = powI n _ 0; rw [powI_zero, powI_zero]
  | succ k ih => rw [Int.mul_add, Int.mul_one, powS_add h hi, ih, powS_succ h hu]
  | pred k ih => rw [Int.mul_sub, Int.mul_one, Int.sub_eq_add_neg, powS_add h hi, ih, powS_pred h hu]
/-- WHAT FieldPowers asks of a modulus. -/
theorem powers_facts (n a j k : Int) (h : modB n = true) (hg : invB n a = true ∨ 0 ≤ j ∧ 0 ≤ k) :
    powS n a (j + k) = mulI n (powS n a j) (powS n a k) ∧ powS n a (j * k) = powS n (powS n a j) k := by
  rw [mulI_of h]
  cases hx : invO n a with
  | some x => exact ⟨powS_add h hx j k, powS_mul h hx j k⟩
  | none =>
    rcases hg with hg | ⟨hj, hk⟩
    · unfold invB at hg; rw [hx] at hg; cases hg
    · rw [powS_nn h hj, powS_nn h hk, powS_nn h (by omega), powS_nn h (Int.mul_nonneg hj hk), powS_nn h hk, ← powI_add, ← powI_mul]
      exact ⟨by congr 1; omega, by congr 1; exact Int.toNat_mul hj hk⟩
theorem powS_01 (n a : Int) (h : modB n = true) : powS n a 0 = 1 % n ∧ powS n a 1 = addI n a 0 := by
  rw [powS_nn h (by omega), powS_nn h (by omega), addI_of h, Int.add_zero]
  exact ⟨powI_zero n a, powI_one n a⟩
theorem powS_noinv (n a j : Int) (h : modB n = true) (hi : invB n a = false) (hj : j < 0) : powS n a j = 0 := by
  refine powS_none h ?_ hj
  unfold invB at hi
  cases hx : invO n a with
  | none => rfl
  | some x => rw [hx] at hi; cases hi
end Go.Proofs.YtbllanmhbfnagaaDoor
