/- Plain laws: the test of primality (no program in sight). Plain laws: groups, numbers of strings, the examples of the chapter (no program in sight). -/
import Derived.Lib.TrailingZeros
import Derived.Test.YtbllanmhbfnagaaDoorU0
set_option linter.unusedVariables false
set_option linter.unusedSimpArgs false
namespace Go.Proofs.YtbllanmhbfnagaaDoor

theorem ctz_split (m : Nat) (h0 : m ≠ 0) (h : m < 18446744073709551616) : m = 2 ^ Lib.ctz 64 m * (m / 2 ^ Lib.ctz 64 m) ∧ m / 2 ^ Lib.ctz 64 m % 2 = 1 ∧ Lib.ctz 64 m < 64 := by
  unfold Lib.ctz
  rw [if_neg h0]
  obtain ⟨q, hq, hk⟩ := Lib.ctzFrom_spec 64 m (by omega) h
  generalize Lib.ctzFrom 64 m = k at *
  have : m / 2 ^ k = 2 * q + 1 := by
    conv => lhs; rw [hq]
    exact Nat.mul_div_cancel_left _ (Nat.two_pow_pos k)
  rw [this]
  exact ⟨hq, by omega, hk⟩
theorem odd_part_unique : ∀ (k j a b : Nat), 2 ^ k * a = 2 ^ j * b → a % 2 = 1 → b % 2 = 1 → k = j ∧ a = b
  | 0, 0, a, b, h, _, _ => ⟨rfl, by omega⟩
  | 0, j + 1, a, b, h, ha, _ => by rw [Nat.pow_succ, Nat.pow_zero, Nat.one_mul, Nat.mul_right_comm] at h; omega
  | k + 1, 0, a, b, h, _, hb => by rw [Nat.pow_succ, Nat.pow_zero, Nat.one_mul, Nat.mul_right_comm] at h; omega
  | k + 1, j + 1, a, b, h, ha, hb => by
    rw [Nat.pow_succ, Nat.pow_succ, Nat.mul_right_comm, Nat.mul_right_comm (2 ^ j)] at h
    have := odd_part_unique k j a b (by omega) ha hb
    omega

/-- A base shows that n is not a prime. -/
def witB (n base : Int) : Bool :=
  !(powI n base ((n - 1).toNat / 2 ^ Lib.ctz 64 (n - 1).toNat) == 1) &&
    (List.range (Lib.ctz 64 (n - 1).toNat)).all (fun i => !(powI n base ((n - 1).toNat / 2 ^ Lib.ctz 64 (n - 1).toNat * 2 ^ i) == n - 1))
theorem powI_sq (n a : Int) (k i : Nat) : powI n a (k * 2 ^ i) * powI n a (k * 2 ^ i) % n = powI n a (k * 2 ^ (i + 1)) := by
  unfold powI
  rw [mul_mod_l, mul_mod_r, ← Int.pow_add, Nat.pow_succ, ← Nat.mul_assoc, Nat.mul_two]
/-- The state of the loop of squares: k steps in all. -/
structure SqInv (n a : Int) (d i : Nat) (x : Int) : Prop where
  val : x = powI n a (d * 2 ^ i)
  no : ∀ j, j < i → powI n a (d * 2 ^ j) ≠ n - 1
theorem SqInv.start (n a : Int) (d : Nat) : SqInv n a d 0 (powI n a d) := ⟨by simp, by omega⟩
theorem SqInv.next {n a x : Int} {d i : Nat} (h : SqInv n a d i x) (hx : x ≠ n - 1) : SqInv n a d (i + 1) (x * x % n) :=
  ⟨by rw [h.val, powI_sq], fun j hj => by
    rcases Nat.lt_or_ge j i with h1 | h1
    · exact h.no j h1
    · rw [show j = i by omega, ← h.val]; exact hx⟩
theorem wit_one {n a : Int} {k d : Nat} (hk : Lib.ctz 64 (n - 1).toNat = k) (hd : (n - 1).toNat / 2 ^ k = d) (h : powI n a d = 1) : witB n a = false := by
  unfold witB; rw [hk, hd, h]; rfl
theorem wit_hit {n a x : Int} {k d i : Nat} (hk : Lib.ctz 64 (n - 1).toNat = k) (hd : (n - 1).toNat / 2 ^ k = d) (h : SqInv n a d i x) (hi : i < k) (hx : x = n - 1) : witB n a = false := by
  unfold witB; rw [hk, hd]
  have : (List.range k).all (fun i => !(powI n a (d * 2 ^ i) == n - 1)) = false := by
    rw [List.all_eq_false]
    exact ⟨i, List.mem_range.2 hi, by rw [← h.val, hx]; simp⟩
  rw [this, Bool.and_false]
theorem wit_yes {n a x : Int} {k d : Nat} (hk : Lib.ctz 64 (n - 1).toNat = k) (hd : (n - 1).toNat / 2 ^ k = d) (h1 : powI n a d ≠ 1) (h : SqInv n a d k x) : witB n a = true := by
  unfold witB; rw [hk, hd]
  have : (List.range k).all (fun i => !(powI n a (d * 2 ^ i) == n - 1)) = true := by
    rw [List.all_eq_true]
    intro j hj
    have := h.no j (List.mem_range.1 hj)
    simpa using this
  rw [this]
  simpa using h1

def smallP : List Int := [2, 3, 5, 7, 11, 13, 17, 19, 23, 29, 31, 37]
/-- n is a prime less than 2^61, as far as the test goes. -/
def primeB (n : Int) : Bool :=
  if n < 2 ∨ 2305843009213693952 ≤ n then false
  else match smallP.find? (fun p => n % p == 0) with
    | some p => n == p
    | none => smallP.all (fun p => !witB n p)
theorem primeB_lo {n : Int} (h : n < 2 ∨ 2305843009213693952 ≤ n) : primeB n = false := by unfold primeB; rw [if_pos h]
theorem find_at {α : Type} (f : α → Bool) : ∀ (l : List α) (i : Nat) (p : α), l[i]? = some p → f p = true → (∀ j q, j < i → l[j]? = some q → f q = false) → l.find? f = some p
  | [], i, p, h, _, _ => by simp at h
  | a :: l, 0, p, h, hp, _ => by simp at h; subst h; simp [hp]
  | a :: l, i + 1, p, h, hp, hn => by
    have := hn 0 a (by omega) (by simp)
    rw [List.find?_cons_of_neg (by simp [this])]
    exact find_at f l i p (by simpa using h) hp (fun j q hj hq => hn (j + 1) q (by omega) (by simpa using hq))
theorem primeB_div {n p : Int} {i : Nat} (h1 : 2 ≤ n) (h2 : n < 2305843009213693952) (hp : smallP[i]? = some p) (hd : n % p = 0) (hn : ∀ j q, j < i → smallP[j]? = some q → n % q ≠ 0) : primeB n = (n == p) := by
  unfold primeB
  rw [if_neg (by omega), find_at _ _ i p hp (by simpa using hd) (fun j q hj hq => by simpa using hn j q hj hq)]
theorem none_of {n : Int} (hn : ∀ j q, j < 12 → smallP[j]? = some q → n % q ≠ 0) : smallP.find? (fun p => n % p == 0) = none := by
  rw [List.find?_eq_none]
  intro p hp
  obtain ⟨j, hj, hq⟩ := List.mem_iff_getElem.1 hp
  have := hn j p hj (by rw [List.getElem?_eq_getElem hj, hq])
  simpa using this
theorem primeB_wit {n p : Int} {i : Nat} (h1 : 2 ≤ n) (h2 : n < 2305843009213693952) (hn : ∀ j q, j < 12 → smallP[j]? = some q → n % q ≠ 0) (hp : smallP[i]? = some p) (hw : witB n p = true) : primeB n = false := by
  unfold primeB
  rw [if_neg (by omega), none_of hn]
  simp only []
  rw [List.all_eq_false]
  exact ⟨p, List.mem_of_getElem? hp, by simp [hw]⟩
theorem primeB_yes {n : Int} (h1 : 2 ≤ n) (h2 : n < 2305843009213693952) (hn : ∀ j q, j < 12 → smallP[j]? = some q → n % q ≠ 0) (hw : ∀ j q, j < 12 → smallP[j]? = some q → witB n q = false) : primeB n = true := by
  unfold primeB
  rw [if_neg (by omega), none_of hn]
  simp only []
  rw [List.all_eq_true]
  intro p hp
  obtain ⟨j, hj, hq⟩ := List.mem_iff_getElem.1 hp
  have := hw j p hj (by rw [List.getElem?_eq_getElem hj, hq])
  simp [this]
theorem smallP_at (i : Nat) (hi : i < 12) : ∃ p, smallP[i]? = some p ∧ 2 ≤ p ∧ p ≤ 37 := by
  have h : ∀ i, i < 12 → ∃ p ∈ smallP, smallP[i]? = some p := fun i hi => ⟨smallP[i]'hi, List.getElem_mem _, List.getElem?_eq_getElem hi⟩
  obtain ⟨p, hm, hp⟩ := h i hi
  refine ⟨p, hp, ?_⟩
  simp only [smallP, List.mem_cons, List.not_mem_nil, or_false] at hm
  omega
/-- What the trial divisions leave. -/
theorem big_odd {n : Int} (h1 : 2 ≤ n) (hn : ∀ j q, j < 12 → smallP[j]? = some q → n % q ≠ 0) : 38 ≤ n ∧ n % 2 = 1 := by
  have a0 := hn 0 2 (by omega) rfl
  have a1 := hn 1 3 (by omega) rfl
  have a2 := hn 2 5 (by omega) rfl
  have a3 := hn 3 7 (by omega) rfl
  have a4 := hn 4 11 (by omega) rfl
  have a5 := hn 5 13 (by omega) rfl
  have a6 := hn 6 17 (by omega) rfl
  have a7 := hn 7 19 (by omega) rfl
  have a8 := hn 8 23 (by omega) rfl
  have a9 := hn 9 29 (by omega) rfl
  have b0 := hn 10 31 (by omega) rfl
  have b1 := hn 11 37 (by omega) rfl
  by_cases h : n < 38
  · exfalso
    have : n = 2 ∨ n = 3 ∨ n = 4 ∨ n = 5 ∨ n = 6 ∨ n = 7 ∨ n = 8 ∨ n = 9 ∨ n = 10 ∨ n = 11 ∨ n = 12 ∨ n = 13 ∨ n = 14 ∨ n = 15 ∨ n = 16 ∨ n = 17 ∨ n = 18 ∨ n = 19 ∨ n = 20 ∨ n = 21 ∨ n = 22 ∨ n = 23 ∨ n = 24 ∨ n = 25 ∨ n = 26 ∨ n = 27 ∨ n = 28 ∨ n = 29 ∨ n = 30 ∨ n = 31 ∨ n = 32 ∨ n = 33 ∨ n = 34 ∨ n = 35 ∨ n = 36 ∨ n = 37 := by omega
    rcases this with rfl | rfl | rfl | rfl | rfl | rfl | rfl | rfl | rfl | rfl | rfl | rfl | rfl | rfl | rfl | rfl | rfl | rfl | rfl | rfl | rfl | rfl | rfl | rfl | rfl | rfl | rfl | rfl | rfl | rfl | rfl | rfl | rfl | rfl | rfl | rfl <;> simp_all
  · omega
end Go.Proofs.YtbllanmhbfnagaaDoor
namespace Go.Proofs.YtbllanmhbfnagaaDoor
/-- A group is valid. -/
def vgB (P Q G : Int) : Bool := decide (5 ≤ Q) && decide (Q < 1152921504606846976) && decide (P = 2 * Q + 1) && decide (2 ≤ G) && decide (G < P) && primeB Q && primeB P && (powS P G Q == 1)
structure VG (P Q G : Int) : Prop where
  q5 : 5 ≤ Q
  qm : Q < 1152921504606846976
  p : P = 2 * Q + 1
  g2 : 2 ≤ G
  gp : G < P
  pq : primeB Q = true
  pp : primeB P = true
  one : powS P G Q = 1
theorem vgB_iff (P Q G : Int) : vgB P Q G = true ↔ VG P Q G := by
  simp only [vgB, Bool.and_eq_true, decide_eq_true_eq, beq_iff_eq]
  exact ⟨fun ⟨⟨⟨⟨⟨⟨⟨a, b⟩, c⟩, d⟩, e⟩, f⟩, g⟩, h⟩ => ⟨a, b, c, d, e, f, g, h⟩, fun h => ⟨⟨⟨⟨⟨⟨⟨h.q5, h.qm⟩, h.p⟩, h.g2⟩, h.gp⟩, h.pq⟩, h.pp⟩, h.one⟩⟩
/-- An element of a group. -/
def elB (P Q G x : Int) : Bool := decide (1 ≤ x) && decide (x < P) && vgB P Q G && (powS P x Q == 1)
/-- Power of a group. -/
def gpI (P Q x k : Int) : Int := if modB P && modB Q then powI P x (k % Q).toNat else 0
/-- Times of a group. -/
def gtI (P Q a b : Int) : Int := if modB Q then mulI P a b else 0
/-- The number of bytes modulo n. -/
def numL (n : Int) (l : List Nat) : Int := l.foldl (fun (o : Int) (b : Nat) => addI n (mulI n o 256) ((b : Nat) : Int)) 0
def numI (n : Int) (l : List Nat) : Int := if modB n then numL n l else 0
/-- The hexadecimal digits. -/
def hexD (k : Nat) : Nat := if k < 10 then 48 + k else 87 + k
def hexL (l : List Nat) : List Nat := l.flatMap (fun b => [hexD (b / 16), hexD (b % 16)])

theorem sane_one : addI 11 9 5 = 3 ∧ subI 11 9 5 = 4 ∧ mulI 11 9 5 = 1 ∧ powS 11 2 10 = 1 ∧ powS 11 2 (-1) = 6 ∧ powS 12 2 (-1) = 0 ∧ powS 1 0 0 = 0 := by decide +kernel
theorem sane_inv : invI 12 5 = 5 ∧ invB 12 5 = true ∧ invB 12 8 = false := by decide +kernel
theorem sane_prime : primeB 2 = true ∧ primeB 1013 = true ∧ primeB 1011 = false ∧ primeB 1 = false ∧ primeB 11 = true ∧ primeB 23 = true ∧ primeB 27 = false ∧ primeB 13 = true := by decide +kernel
theorem sane_group : vgB 23 11 4 = true ∧ vgB 27 13 4 = false ∧ gpI 23 11 4 3 = 18 ∧ gpI 23 11 4 (-1) = 6 ∧ gtI 23 11 16 (powS 23 18 (-1)) = 6 ∧ elB 23 11 4 2 = true ∧ elB 23 11 4 5 = false := by decide +kernel
theorem sane_number : numI 256 (shaF [97, 98, 99]) = 173 ∧ numI 65536 (shaF [97, 98, 99]) = 5549 := by rw [sha_abc]; decide +kernel
theorem sane_hex : hexL (shaF [97, 98, 99]) = [98, 97, 55, 56, 49, 54, 98, 102, 56, 102, 48, 49, 99, 102, 101, 97, 52, 49, 52, 49, 52, 48, 100, 101, 53, 100, 97, 101, 50, 50, 50, 51, 98, 48, 48, 51, 54, 49, 97, 51, 57, 54, 49, 55, 55, 97, 57, 99, 98, 52, 49, 48, 102, 102, 54, 49, 102, 50, 48, 48, 49, 53, 97, 100] := by rw [sha_abc]; decide +kernel
end Go.Proofs.YtbllanmhbfnagaaDoor
