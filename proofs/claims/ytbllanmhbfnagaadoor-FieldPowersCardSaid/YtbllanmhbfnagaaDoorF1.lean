/- Plain laws: powers and inverses modulo n (no program in sight). -/
import Derived.Test.YtbllanmhbfnagaaDoorF0
set_option linter.unusedVariables false
set_option linter.unusedSimpArgs false
namespace Go.Proofs.YtbllanmhbfnagaaDoor

theorem mul_mod_l (a b n : Int) : (a % n) * b % n = a * b % n := by rw [Int.mul_emod, Int.emod_emod_of_dvd _ (Int.dvd_refl n), ← Int.mul_emod]
theorem mul_mod_r (a b n : Int) : a * (b % n) % n = a * b % n := by rw [Int.mul_emod, Int.emod_emod_of_dvd _ (Int.dvd_refl n), ← Int.mul_emod]
theorem pow_mod (a n : Int) (k : Nat) : (a % n) ^ k % n = a ^ k % n := by
  induction k with
  | zero => simp
  | succ k ih => rw [Int.pow_succ, Int.pow_succ, mul_mod_r, ← mul_mod_l, ih, mul_mod_l]

theorem sub_mod (a b n : Int) : (a % n + n - b % n) % n = (a - b) % n := by
  rw [show a % n + n - b % n = (a % n - b % n) + n by omega, Int.add_emod_right, ← Int.sub_emod]
theorem sub_mod' (a b n : Int) : (a % n + n - b) % n = (a - b) % n := by
  rw [← sub_mod a b, Int.sub_emod, Int.sub_emod (a % n + n) (b % n), Int.emod_emod_of_dvd _ (Int.dvd_refl n)]
theorem add_mod (a b n : Int) : (a % n + b % n) % n = (a + b) % n := by rw [← Int.add_emod]
/-- Multiplication two bits at a time: the next state. -/
theorem mul2_step (x y n j : Int) : (4 * (j * x % n) % n + 0 * x) % n = (4 * j + 0) * x % n := by
  rw [Int.zero_mul, Int.add_zero, Int.add_zero, Int.emod_emod_of_dvd _ (Int.dvd_refl n), mul_mod_r, Int.mul_assoc]
theorem mul2_add (x n j i o : Int) (h : o = (4 * j + i) * x % n) : (o + x) % n = (4 * j + (i + 1)) * x % n := by
  rw [h, Int.emod_add_emod]
  congr 1
  grind
theorem mul2_first (x n j : Int) : 4 * (j * x % n) % n = (4 * j + 0) * x % n := by
  rw [mul_mod_r, Int.add_zero, Int.mul_assoc]
theorem shr_four (y k : Int) (_hy : 0 ≤ y) (hk : 0 ≤ k) : y / 2 ^ k.toNat = 4 * (y / 2 ^ (k + 2).toNat) + y / 2 ^ k.toNat % 4 := by
  rw [show (k + 2).toNat = k.toNat + 2 by omega, Int.pow_add, ← Int.ediv_ediv_of_nonneg (Int.pow_nonneg (by omega))]
  omega
theorem shr_top (y : Int) (h0 : 0 ≤ y) (h1 : y < 2305843009213693952) : y / 2 ^ (60 + 2 : Int).toNat = 0 := by
  rw [show (60 + 2 : Int).toNat = 62 from rfl, show (2 : Int) ^ 62 = 4611686018427387904 by decide]
  omega
theorem sub_mod_r (a b n : Int) : (a - b % n) % n = (a - b) % n := by rw [Int.sub_emod, Int.emod_emod_of_dvd _ (Int.dvd_refl n), ← Int.sub_emod]
theorem mulI_of {n a b : Int} (h : modB n = true) : mulI n a b = a * b % n := by unfold mulI; rw [if_pos h]
theorem addI_of {n a b : Int} (h : modB n = true) : addI n a b = (a + b) % n := by unfold addI; rw [if_pos h]
theorem subI_of {n a b : Int} (h : modB n = true) : subI n a b = (a - b) % n := by unfold subI; rw [if_pos h]
/-- a to the power of k modulo n. -/
def powI (n a : Int) (k : Nat) : Int := a ^ k % n
theorem powI_mod (n a : Int) (k : Nat) : powI n (a % n) k = powI n a k := pow_mod a n k
theorem powI_bd {n : Int} (h : 1 ≤ n) (a : Int) (k : Nat) : 0 ≤ powI n a k ∧ powI n a k < n := emod_bd _ _ h

/-- The state of square and multiply: what is still to be multiplied makes the power. -/
structure PowInv (n A : Int) (B : Nat) (a b o : Int) : Prop where
  a0 : 0 ≤ a
  a1 : a < n
  b0 : 0 ≤ b
  b1 : b ≤ 18446744073709551615
  o0 : 0 ≤ o
  o1 : o < n
  val : o * a ^ b.toNat % n = powI n A B
theorem pow_half (a b : Int) (hb : 0 ≤ b) : a ^ b.toNat = (a * a) ^ (b / 2).toNat * a ^ (b % 2).toNat := by
  obtain ⟨k, rfl⟩ := Int.eq_ofNat_of_zero_le hb
  have e1 : ((k : Int) / 2).toNat = k / 2 := by omega
  have e2 : ((k : Int) % 2).toNat = k % 2 := by omega
  rw [e1, e2, Int.toNat_natCast]
  conv => lhs; rw [← Nat.div_add_mod k 2, Int.pow_add, Int.pow_mul]
  rw [show a ^ 2 = a * a by rw [Int.pow_succ, Int.pow_succ, Int.pow_zero, Int.one_mul]]
theorem PowInv.start {n A : Int} (hn : 1 ≤ n) (hA0 : 0 ≤ A) (hA1 : A < n) {b : Int} (hb0 : 0 ≤ b) (hb1 : b ≤ 18446744073709551615) : PowInv n A b.toNat A b (1 % n) :=
  ⟨hA0, hA1, hb0, hb1, (emod_bd 1 n hn).1, (emod_bd 1 n hn).2, by rw [mul_mod_l, Int.one_mul]; rfl⟩
theorem PowInv.odd {n A : Int} {B : Nat} {a b o : Int} (hn : 1 ≤ n) (h : PowInv n A B a b o) (hb : b % 2 = 1) : PowInv n A B (a * a % n) (b / 2) (o * a % n) :=
  ⟨(emod_bd _ n hn).1, (emod_bd _ n hn).2, by have := h.b0; omega, by have := h.b1; have := h.b0; omega, (emod_bd _ n hn).1, (emod_bd _ n hn).2, by
    rw [← h.val, pow_half a b h.b0, hb, mul_mod_l, ← mul_mod_r, pow_mod, mul_mod_r]
    congr 1
    rw [show (1 : Int).toNat = 1 from rfl, Int.pow_succ, Int.pow_zero, Int.one_mul]
    grind⟩
theorem PowInv.even {n A : Int} {B : Nat} {a b o : Int} (hn : 1 ≤ n) (h : PowInv n A B a b o) (hb : b % 2 = 0) : PowInv n A B (a * a % n) (b / 2) o :=
  ⟨(emod_bd _ n hn).1, (emod_bd _ n hn).2, by have := h.b0; omega, by have := h.b1; have := h.b0; omega, h.o0, h.o1, by
    rw [← h.val, pow_half a b h.b0, hb, ← mul_mod_r, pow_mod, mul_mod_r]
    congr 1
    rw [show (0 : Int).toNat = 0 from rfl, Int.pow_zero, Int.mul_one]⟩
theorem PowInv.done {n A : Int} {B : Nat} {a b o : Int} (h : PowInv n A B a b o) (hb : b ≤ 0) : o = powI n A B := by
  have hb' : b = 0 := by have := h.b0; omega
  have hv := h.val
  rw [hb', show (0 : Int).toNat = 0 from rfl, Int.pow_zero, Int.mul_one, Int.emod_eq_of_lt h.o0 h.o1] at hv
  exact hv

/-- The inverse of a modulo n: the only residue whose product with a is 1. -/
def invO (n a : Int) : Option Int := if modB n then ((List.range n.toNat).map Int.ofNat).find? (fun x => a * x % n == 1 % n) else none
def invB (n a : Int) : Bool := (invO n a).isSome
def invI (n a : Int) : Int := (invO n a).getD 0
theorem invO_of {n a x : Int} (hn : modB n = true) (h0 : 0 ≤ x) (h1 : x < n) (hx : a * x % n = 1 % n) : invO n a = some x := by
  unfold invO
  rw [if_pos hn]
  cases hf : ((List.range n.toNat).map Int.ofNat).find? (fun x => a * x % n == 1 % n) with
  | none =>
    have := List.find?_eq_none.1 hf x (by
      simp only [List.mem_map, List.mem_range]
      exact ⟨x.toNat, by omega, by simp only [Int.ofNat_eq_natCast]; omega⟩)
    simp [hx] at this
  | some y =>
    have hy := List.find?_some hf
    have hm := List.mem_of_find?_eq_some hf
    simp only [List.mem_map, List.mem_range] at hm
    obtain ⟨k, hk, rfl⟩ := hm
    simp only [beq_iff_eq, Int.ofNat_eq_natCast] at hy ⊢
    have key : x % n = (k : Int) % n := by
      have e1 : (a * (k : Int)) * x % n = x % n := by rw [← mul_mod_l, hy, mul_mod_l, Int.one_mul]
      have e2 : (a * (k : Int)) * x % n = (k : Int) % n := by
        rw [show a * (k : Int) * x = (a * x) * k by grind, ← mul_mod_l, hx, mul_mod_l, Int.one_mul]
      rw [← e1, e2]
    rw [Int.emod_eq_of_lt h0 h1, Int.emod_eq_of_lt (by omega) (by omega)] at key
    rw [key]
theorem invO_some {n a x : Int} (h : invO n a = some x) : modB n = true ∧ 0 ≤ x ∧ x < n ∧ a * x % n = 1 % n := by
  unfold invO at h
  split at h
  · rename_i hm
    have h1 := List.find?_some h
    have h2 := List.mem_of_find?_eq_some h
    simp only [List.mem_map, List.mem_range] at h2
    obtain ⟨k, hk, rfl⟩ := h2
    simp only [beq_iff_eq, Int.ofNat_eq_natCast] at h1 ⊢
    exact ⟨hm, by omega, by omega, h1⟩
  · cases h
theorem invO_none {n a : Int} (h : ∀ x, a * x % n ≠ 1 % n) : invO n a = none := by
  cases hf : invO n a with
  | none => rfl
  | some x => exact absurd (invO_some hf).2.2.2 (h x)
theorem invI_bd (n a : Int) : 0 ≤ invI n a ∧ invI n a < 2305843009213693952 := by
  unfold invI
  cases hf : invO n a with
  | none => simp
  | some x => have := invO_some hf; have := modB_iff.1 this.1; simp only [Option.getD_some]; omega

/-- The state of Euclid's algorithm. -/
structure InvInv (n A r s x y : Int) : Prop where
  r0 : 1 ≤ r
  r1 : r < 2305843009213693952
  s0 : 0 ≤ s
  s1 : s < 2305843009213693952
  x0 : 0 ≤ x
  x1 : x < 2305843009213693952
  y0 : 0 ≤ y
  y1 : y < 2305843009213693952
  xr : A * x % n = r % n
  ys : A * y % n = s % n
  dv : ∀ d, d ∣ r → d ∣ s → d ∣ n ∧ d ∣ A
theorem dvd_of_emod {d a n : Int} (h1 : d ∣ n) (h2 : d ∣ a % n) : d ∣ a := by
  rw [← Int.ediv_mul_add_emod a n]
  exact Int.dvd_add (Int.dvd_trans h1 (Int.dvd_mul_left _ _)) h2
theorem InvInv.start {n A y : Int} (hn : modB n = true) (hy : y = 1 ∨ y = 1 % n) : InvInv n A n (A % n) 0 y := by
  have hm := modB_iff.1 hn
  have h1 := emod_bd A n hm.1
  have h2 := emod_bd 1 n hm.1
  refine ⟨hm.1, hm.2, h1.1, by omega, by omega, by omega, by omega, by omega, by simp, ?_, fun d h3 h4 => ⟨h3, dvd_of_emod h3 h4⟩⟩
  rcases hy with rfl | rfl
  · rw [Int.mul_one, Int.emod_emod_of_dvd _ (Int.dvd_refl n)]
  · rw [mul_mod_r, Int.mul_one, Int.emod_emod_of_dvd _ (Int.dvd_refl n)]
theorem InvInv.next {n A r s x y : Int} (hn : modB n = true) (h : InvInv n A r s x y) (hs : s ≠ 0) :
    InvInv n A s (r - r / s * s) y (subI n x (mulI n (r / s) y)) := by
  have hm := modB_iff.1 hn
  have e := Int.ediv_mul_add_emod r s
  have h0 := h.s0
  have hb := emod_bd r s (by omega)
  have hz := subI_bd n x (mulI n (r / s) y)
  have hs1 := h.s1
  refine ⟨by omega, hs1, by omega, by omega, h.y0, h.y1, hz.1, hz.2, h.ys, ?_, ?_⟩
  · unfold subI mulI
    rw [if_pos hn, if_pos hn, mul_mod_r]
    have c1 := h.xr
    have c2 := h.ys
    have : (r - r / s * s - A * (x - (r / s * y) % n)) % n = 0 := by
      have d1 := Int.emod_eq_emod_iff_emod_sub_eq_zero.1 c1
      have d2 := Int.emod_eq_emod_iff_emod_sub_eq_zero.1 c2
      obtain ⟨p, hp⟩ := Int.dvd_of_emod_eq_zero d1
      obtain ⟨q, hq⟩ := Int.dvd_of_emod_eq_zero d2
      have hw := Int.ediv_mul_add_emod (r / s * y) n
      refine Int.emod_eq_zero_of_dvd ⟨- p + (r / s) * q - A * (r / s * y / n), ?_⟩
      grind
    rw [← Int.emod_eq_emod_iff_emod_sub_eq_zero.2 this]
  · intro d h1 h2
    refine h.dv d ?_ h1
    have : d ∣ r / s * s := Int.dvd_trans h1 (Int.dvd_mul_left _ _)
    have := Int.dvd_add h2 this
    rwa [Int.sub_add_cancel] at this
theorem InvInv.yes {n A r s x y : Int} (hn : modB n = true) (h : InvInv n A r s x y) (hr : r = 1) : invO n A = some (x % n) := by
  have hm := modB_iff.1 hn
  have hb := emod_bd x n hm.1
  exact invO_of hn hb.1 hb.2 (by rw [mul_mod_r, h.xr, hr])
theorem InvInv.no {n A r s x y : Int} (h : InvInv n A r s x y) (hs : s = 0) (hr : r ≠ 1) : invO n A = none := by
  refine invO_none fun z hz => ?_
  obtain ⟨d1, d2⟩ := h.dv r (Int.dvd_refl r) (by rw [hs]; exact Int.dvd_zero r)
  have e1 := Int.emod_eq_emod_iff_emod_sub_eq_zero.1 hz
  obtain ⟨p, hp⟩ := Int.dvd_of_emod_eq_zero e1
  obtain ⟨u, hu⟩ := d1
  obtain ⟨v, hv⟩ := d2
  have : r ∣ 1 := ⟨v * z - u * p, by grind⟩
  have := Int.le_of_dvd (by omega) this
  have := h.r0
  omega
theorem invO_mod (n a : Int) : invO n (a % n) = invO n a := by
  unfold invO
  simp only [mul_mod_l]

/-- Pow. -/
def powS (n a b : Int) : Int := if modB n then (if 0 ≤ b then powI n a b.toNat else match invO n a with | none => 0 | some x => powI n x (-b).toNat) else 0
theorem powS_bd (n a b : Int) : 0 ≤ powS n a b ∧ powS n a b < 2305843009213693952 := by
  unfold powS
  split
  · rename_i hn
    have hm := modB_iff.1 hn
    split
    · have := powI_bd hm.1 a b.toNat; omega
    · split
      · omega
      · rename_i x _; have := powI_bd hm.1 x (-b).toNat; omega
  · omega
end Go.Proofs.YtbllanmhbfnagaaDoor
