/- Plain laws: SHA-256 on natural numbers (no program in sight). -/
import Derived.Test.YtbllanmhbfnagaaDoorF0
set_option linter.unusedVariables false
set_option linter.unusedSimpArgs false
namespace Go.Proofs.YtbllanmhbfnagaaDoor

def rotl (x s : Nat) : Nat := (x * 2 ^ s) % 4294967296 ||| x / 2 ^ (32 - s)
def sg0 (x : Nat) : Nat := (rotl x 25 ^^^ rotl x 14) ^^^ x / 8
def sg1 (x : Nat) : Nat := (rotl x 15 ^^^ rotl x 13) ^^^ x / 1024
/-- Word k of a block of bytes. -/
def wordAt (b : List Nat) (k : Nat) : Nat := ((b.getD (4 * k) 0 * 16777216 ||| b.getD (4 * k + 1) 0 * 65536) ||| b.getD (4 * k + 2) 0 * 256) ||| b.getD (4 * k + 3) 0
theorem wordAt_lt (b : List Nat) (k : Nat) (h : ∀ j, b.getD j 0 < 256) : wordAt b k < 4294967296 := by
  unfold wordAt
  have h0 := h (4 * k)
  have h1 := h (4 * k + 1)
  have h2 := h (4 * k + 2)
  have h3 := h (4 * k + 3)
  exact Nat.or_lt_two_pow (n := 32) (Nat.or_lt_two_pow (Nat.or_lt_two_pow (by omega) (by omega)) (by omega)) (by omega)
/-- The first n words of the message schedule of a block. -/
def sched (b : List Nat) : Nat → List Nat
  | 0 => []
  | k + 1 => sched b k ++ [if k < 16 then wordAt b k else ((((sched b k).getD (k - 16) 0 + sg0 ((sched b k).getD (k - 15) 0)) % 4294967296 + (sched b k).getD (k - 7) 0) % 4294967296 + sg1 ((sched b k).getD (k - 2) 0)) % 4294967296]
theorem sched_len (b : List Nat) (k : Nat) : (sched b k).length = k := by
  induction k with
  | zero => rfl
  | succ k ih => simp [sched, ih]

theorem sched_lt (b : List Nat) (h : ∀ j, b.getD j 0 < 256) (k : Nat) : ∀ j, (sched b k).getD j 0 < 4294967296 := by
  induction k with
  | zero => intro j; simp [sched]
  | succ k ih =>
    intro j
    simp only [sched, List.getD]
    rcases Nat.lt_or_ge j k with hj | hj
    · rw [List.getElem?_append_left (by rw [sched_len]; exact hj)]
      exact ih j
    · rw [List.getElem?_append_right (by rw [sched_len]; exact hj), sched_len]
      rcases Nat.eq_or_lt_of_le hj with hj | hj
      · subst hj
        rw [Nat.sub_self, List.getElem?_cons_zero, Option.getD_some]
        split
        · exact wordAt_lt b _ h
        · exact Nat.mod_lt _ (by omega)
      · rw [List.getElem?_eq_none (by simp; omega)]; simp
/-- The state: eight words. -/
structure St where
  a : Nat
  b : Nat
  c : Nat
  d : Nat
  e : Nat
  f : Nat
  g : Nat
  h : Nat
def bs1 (x : Nat) : Nat := (rotl x 26 ^^^ rotl x 21) ^^^ rotl x 7
def bs0 (x : Nat) : Nat := (rotl x 30 ^^^ rotl x 19) ^^^ rotl x 10
def chF (e f g : Nat) : Nat := g ^^^ (e &&& (f ^^^ g))
def mjF (a b c : Nat) : Nat := (a &&& b) ||| (c &&& (a ||| b))
def tF (v : St) (k w : Nat) : Nat := ((((v.h + bs1 v.e) % 4294967296 + chF v.e v.f v.g) % 4294967296 + k) % 4294967296 + w) % 4294967296
def roundF (v : St) (k w : Nat) : St :=
  ⟨((tF v k w + bs0 v.a) % 4294967296 + mjF v.a v.b v.c) % 4294967296, v.a, v.b, v.c, (v.d + tF v k w) % 4294967296, v.e, v.f, v.g⟩
def kTab : List Nat := [
  0x428a2f98, 0x71374491, 0xb5c0fbcf, 0xe9b5dba5, 0x3956c25b, 0x59f111f1, 0x923f82a4, 0xab1c5ed5,
  0xd807aa98, 0x12835b01, 0x243185be, 0x550c7dc3, 0x72be5d74, 0x80deb1fe, 0x9bdc06a7, 0xc19bf174,
  0xe49b69c1, 0xefbe4786, 0x0fc19dc6, 0x240ca1cc, 0x2de92c6f, 0x4a7484aa, 0x5cb0a9dc, 0x76f988da,
  0x983e5152, 0xa831c66d, 0xb00327c8, 0xbf597fc7, 0xc6e00bf3, 0xd5a79147, 0x06ca6351, 0x14292967,
  0x27b70a85, 0x2e1b2138, 0x4d2c6dfc, 0x53380d13, 0x650a7354, 0x766a0abb, 0x81c2c92e, 0x92722c85,
  0xa2bfe8a1, 0xa81a664b, 0xc24b8b70, 0xc76c51a3, 0xd192e819, 0xd6990624, 0xf40e3585, 0x106aa070,
  0x19a4c116, 0x1e376c08, 0x2748774c, 0x34b0bcb5, 0x391c0cb3, 0x4ed8aa4a, 0x5b9cca4f, 0x682e6ff3,
  0x748f82ee, 0x78a5636f, 0x84c87814, 0x8cc70208, 0x90befffa, 0xa4506ceb, 0xbef9a3f7, 0xc67178f2]
/-- The state after n rounds. -/
def roundsF (ws : List Nat) (v : St) : Nat → St
  | 0 => v
  | n + 1 => roundF (roundsF ws v n) (kTab.getD n 0) (ws.getD n 0)
structure StOK (v : St) : Prop where
  a : v.a < 4294967296
  b : v.b < 4294967296
  c : v.c < 4294967296
  d : v.d < 4294967296
  e : v.e < 4294967296
  f : v.f < 4294967296
  g : v.g < 4294967296
  h : v.h < 4294967296
theorem StOK.round {v : St} (h : StOK v) (k w : Nat) : StOK (roundF v k w) :=
  ⟨Nat.mod_lt _ (by omega), h.a, h.b, h.c, Nat.mod_lt _ (by omega), h.e, h.f, h.g⟩
theorem StOK.rounds (ws : List Nat) {v : St} (h : StOK v) (n : Nat) : StOK (roundsF ws v n) := by
  induction n with
  | zero => exact h
  | succ n ih => exact ih.round _ _
def addSt (v h : St) : St :=
  ⟨(v.a + h.a) % 4294967296, (v.b + h.b) % 4294967296, (v.c + h.c) % 4294967296, (v.d + h.d) % 4294967296, (v.e + h.e) % 4294967296, (v.f + h.f) % 4294967296, (v.g + h.g) % 4294967296, (v.h + h.h) % 4294967296⟩
theorem StOK.add (v h : St) : StOK (addSt v h) :=
  ⟨Nat.mod_lt _ (by omega), Nat.mod_lt _ (by omega), Nat.mod_lt _ (by omega), Nat.mod_lt _ (by omega), Nat.mod_lt _ (by omega), Nat.mod_lt _ (by omega), Nat.mod_lt _ (by omega), Nat.mod_lt _ (by omega)⟩
/-- The state after a block. -/
def mixF (h : St) (b : List Nat) : St := addSt (roundsF (sched b 64) h 64) h
def firstF : St := ⟨0x6a09e667, 0xbb67ae85, 0x3c6ef372, 0xa54ff53a, 0x510e527f, 0x9b05688c, 0x1f83d9ab, 0x5be0cd19⟩
theorem StOK.first : StOK firstF := ⟨by decide, by decide, by decide, by decide, by decide, by decide, by decide, by decide⟩
/-- The state after n blocks. -/
def blocksF (p : List Nat) : Nat → St
  | 0 => firstF
  | n + 1 => mixF (blocksF p n) ((p.drop (64 * n)).take 64)
def zerosN (l : Nat) : Nat := (55 + (64 - l % 64)) % 64
def lenBytes (l : Nat) : List Nat := [8 * l / 2 ^ 56 % 256, 8 * l / 2 ^ 48 % 256, 8 * l / 2 ^ 40 % 256, 8 * l / 2 ^ 32 % 256, 8 * l / 2 ^ 24 % 256, 8 * l / 2 ^ 16 % 256, 8 * l / 2 ^ 8 % 256, 8 * l % 256]
/-- The message with its padding. -/
def padF (b : List Nat) : List Nat := b ++ [128] ++ List.replicate (zerosN b.length) 0 ++ lenBytes b.length
def wordBytes (x : Nat) : List Nat := [x / 16777216 % 256, x / 65536 % 256, x / 256 % 256, x % 256]
def stBytes (v : St) : List Nat := wordBytes v.a ++ wordBytes v.b ++ wordBytes v.c ++ wordBytes v.d ++ wordBytes v.e ++ wordBytes v.f ++ wordBytes v.g ++ wordBytes v.h
def shaF (b : List Nat) : List Nat := stBytes (blocksF (padF b) ((padF b).length / 64))

def stL (v : St) : List Nat := [v.a, v.b, v.c, v.d, v.e, v.f, v.g, v.h]
/-- The first j words of l have been added to those of h. -/
def sumL (l h : List Nat) (j : Nat) : List Nat := (List.range 8).map (fun i => if i < j then (l.getD i 0 + h.getD i 0) % 4294967296 else l.getD i 0)
theorem sumL_len (l h : List Nat) (j : Nat) : (sumL l h j).length = 8 := by simp [sumL]
theorem sumL_at (l h : List Nat) (j i : Nat) (hi : i < 8) : (sumL l h j).getD i 0 = if i < j then (l.getD i 0 + h.getD i 0) % 4294967296 else l.getD i 0 := by
  simp [sumL, List.getD, hi]
theorem sumL_set (l h : List Nat) (j : Nat) (hj : j < 8) : (sumL l h j).set j ((l.getD j 0 + h.getD j 0) % 4294967296) = sumL l h (j + 1) := by
  refine List.ext_getElem? fun i => ?_
  rw [List.getElem?_set, sumL_len]
  by_cases hij : j = i
  · subst hij
    simp [sumL, hj]
  · rw [if_neg hij]
    by_cases hi : i < 8
    · simp only [sumL, List.getElem?_map, List.getElem?_range hi, Option.map_some]
      congr 1
      by_cases h1 : i < j
      · rw [if_pos h1, if_pos (by omega)]
      · rw [if_neg h1, if_neg (by omega)]
    · rw [List.getElem?_eq_none (by rw [sumL_len]; omega), List.getElem?_eq_none (by rw [sumL_len]; omega)]
theorem sumL_zero (v : St) (hl : List Nat) : sumL (stL v) hl 0 = stL v := by
  obtain ⟨a, b, c, d, e, f, g, h⟩ := v
  simp [sumL, stL, List.range, List.range.loop]
theorem sumL_done (v h : St) : sumL (stL v) (stL h) 8 = stL (addSt v h) := by
  obtain ⟨a, b, c, d, e, f, g, h1⟩ := v
  obtain ⟨a2, b2, c2, d2, e2, f2, g2, h2⟩ := h
  simp [sumL, stL, addSt, List.range, List.range.loop]
theorem sha_abc : shaF [97, 98, 99] = [0xba, 0x78, 0x16, 0xbf, 0x8f, 0x01, 0xcf, 0xea, 0x41, 0x41, 0x40, 0xde, 0x5d, 0xae, 0x22, 0x23, 0xb0, 0x03, 0x61, 0xa3, 0x96, 0x17, 0x7a, 0x9c, 0xb4, 0x10, 0xff, 0x61, 0xf2, 0x00, 0x15, 0xad] := by decide +kernel
end Go.Proofs.YtbllanmhbfnagaaDoor
