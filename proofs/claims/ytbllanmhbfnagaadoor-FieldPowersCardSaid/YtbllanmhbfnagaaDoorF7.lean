/- Plain laws: groups, numbers of strings, the examples of the chapter (no program in sight). -/
import Derived.Test.YtbllanmhbfnagaaDoorF6
import Derived.Test.YtbllanmhbfnagaaDoorF2
import Derived.Test.YtbllanmhbfnagaaDoorF3
set_option linter.unusedVariables false
set_option linter.unusedSimpArgs false
namespace Go.Proofs.YtbllanmhbfnagaaDoor
/-- A group is valid. -/
def vgB (P Q G : Int) : Bool := decide (5 ≤ Q) && decide (Q < 1152921504606846976) && decide (P = 2 * Q + 1) && decide (2 ≤ G) && decide (G < P) && primeB Q && primeB P && (powS P G Q == 1)
structure VG (P Q G : Int) : Prop where
  q5 : 5 ≤ Q
  qm : Q < 1152921504606846976
  p : P = 2 * Q + 1
  g2 : 2 ≤ G
  gp : G < P
  pq : primeB Q = true
  pp : primeB P = true
  one : powS P G Q = 1
theorem vgB_iff (P Q G : Int) : vgB P Q G = true ↔ VG P Q G := by
  simp only [vgB, Bool.and_eq_true, decide_eq_true_eq, beq_iff_eq]
  exact ⟨fun ⟨⟨⟨⟨⟨⟨⟨a, b⟩, c⟩, d⟩, e⟩, f⟩, g⟩, h⟩ => ⟨a, b, c, d, e, f, g, h⟩, fun h => ⟨⟨⟨⟨⟨⟨⟨h.q5, h.qm⟩, h.p⟩, h.g2⟩, h.gp⟩, h.pq⟩, h.pp⟩, h.one⟩⟩
/-- An element of a group. -/
def elB (P Q G x : Int) : Bool := decide (1 ≤ x) && decide (x < P) && vgB P Q G && (powS P x Q == 1)
/-- Power of a group. -/
def gpI (P Q x k : Int) : Int := if modB P && modB Q then powI P x (k % Q).toNat else 0
/-- Times of a group. -/
def gtI (P Q a b : Int) : Int := if modB Q then mulI P a b else 0
/-- The number of bytes modulo n. -/
def numL (n : Int) (l : List Nat) : Int := l.foldl (fun (o : Int) (b : Nat) => addI n (mulI n o 256) ((b : Nat) : Int)) 0
def numI (n : Int) (l : List Nat) : Int := if modB n then numL n l else 0
/-- The hexadecimal digits. -/
def hexD (k : Nat) : Nat := if k < 10 then 48 + k else 87 + k
def hexL (l : List Nat) : List Nat := l.flatMap (fun b => [hexD (b / 16), hexD (b % 16)])

theorem sane_one : addI 11 9 5 = 3 ∧ subI 11 9 5 = 4 ∧ mulI 11 9 5 = 1 ∧ powS 11 2 10 = 1 ∧ powS 11 2 (-1) = 6 ∧ powS 12 2 (-1) = 0 ∧ powS 1 0 0 = 0 := by decide +kernel
theorem sane_inv : invI 12 5 = 5 ∧ invB 12 5 = true ∧ invB 12 8 = false := by decide +kernel
theorem sane_prime : primeB 2 = true ∧ primeB 1013 = true ∧ primeB 1011 = false ∧ primeB 1 = false ∧ primeB 11 = true ∧ primeB 23 = true ∧ primeB 27 = false ∧ primeB 13 = true := by decide +kernel
theorem sane_group : vgB 23 11 4 = true ∧ vgB 27 13 4 = false ∧ gpI 23 11 4 3 = 18 ∧ gpI 23 11 4 (-1) = 6 ∧ gtI 23 11 16 (powS 23 18 (-1)) = 6 ∧ elB 23 11 4 2 = true ∧ elB 23 11 4 5 = false := by decide +kernel
theorem sane_number : numI 256 (shaF [97, 98, 99]) = 173 ∧ numI 65536 (shaF [97, 98, 99]) = 5549 := by rw [sha_abc]; decide +kernel
theorem sane_hex : hexL (shaF [97, 98, 99]) = [98, 97, 55, 56, 49, 54, 98, 102, 56, 102, 48, 49, 99, 102, 101, 97, 52, 49, 52, 49, 52, 48, 100, 101, 53, 100, 97, 101, 50, 50, 50, 51, 98, 48, 48, 51, 54, 49, 97, 51, 57, 54, 49, 55, 55, 97, 57, 99, 98, 52, 49, 48, 102, 102, 54, 49, 102, 50, 48, 48, 49, 53, 97, 100] := by rw [sha_abc]; decide +kernel
end Go.Proofs.YtbllanmhbfnagaaDoor
