/- Plain laws: the padding and the digest of SHA-256 (no program in sight). -/
import Derived.Test.YtbllanmhbfnagaaDoorF3
set_option linter.unusedVariables false
set_option linter.unusedSimpArgs false
namespace Go.Proofs.YtbllanmhbfnagaaDoor
theorem zerosN_le (L : Nat) : zerosN L ≤ 63 := by unfold zerosN; omega
theorem zerosN_end (L : Nat) : (L + 1 + zerosN L) % 64 = 56 := by unfold zerosN; omega
theorem zerosN_not (L z : Nat) (h : z < zerosN L) : (L + 1 + z) % 64 ≠ 56 := by unfold zerosN at h; omega
theorem lenBytes_len (L : Nat) : (lenBytes L).length = 8 := rfl
theorem lenBytes_step (L j : Nat) (hj : j < 8) : (lenBytes L).take (j + 1) = (lenBytes L).take j ++ [8 * L / 2 ^ (56 - 8 * j) % 256] := by
  rw [List.take_add_one]
  congr 1
  match j, hj with
  | 0, _ => rfl
  | 1, _ => rfl
  | 2, _ => rfl
  | 3, _ => rfl
  | 4, _ => rfl
  | 5, _ => rfl
  | 6, _ => rfl
  | 7, _ => simp [lenBytes]
/-- The message, the mark, so many zeros. -/
def padZ (l : List Nat) (z : Nat) : List Nat := l ++ [128] ++ List.replicate z 0
theorem padZ_len (l : List Nat) (z : Nat) : (padZ l z).length = l.length + 1 + z := by simp [padZ]; omega
theorem padZ_step (l : List Nat) (z : Nat) : padZ l z ++ [0] = padZ l (z + 1) := by
  unfold padZ
  rw [List.append_assoc, ← List.replicate_succ']
/-- The message with its zeros and so many bytes of its length. -/
def padJ (l : List Nat) (j : Nat) : List Nat := padZ l (zerosN l.length) ++ (lenBytes l.length).take j
theorem padJ_zero (l : List Nat) : padZ l (zerosN l.length) = padJ l 0 := by simp [padJ]
theorem padJ_len (l : List Nat) (j : Nat) (hj : j ≤ 8) : (padJ l j).length = l.length + 1 + zerosN l.length + j := by
  rw [padJ, List.length_append, padZ_len, List.length_take, lenBytes_len, Nat.min_eq_left hj]
theorem padJ_step (l : List Nat) (j : Nat) (hj : j < 8) : padJ l j ++ [8 * l.length / 2 ^ (56 - 8 * j) % 256] = padJ l (j + 1) := by
  unfold padJ
  rw [List.append_assoc, lenBytes_step _ j hj]
theorem padJ_done (l : List Nat) : padJ l 8 = padF l := by
  unfold padJ padF padZ
  rw [List.take_of_length_le (by rw [lenBytes_len]; exact Nat.le_refl _)]
theorem padF_len (l : List Nat) : (padF l).length = l.length + 1 + zerosN l.length + 8 := by rw [← padJ_done, padJ_len l 8 (by omega)]
theorem padF_blocks (l : List Nat) : (padF l).length = 64 * ((padF l).length / 64) := by
  rw [padF_len]; have := zerosN_end l.length; omega
theorem padF_lt (l : List Nat) (h : ∀ j, l.getD j 0 < 256) (j : Nat) : (padF l).getD j 0 < 256 := by
  rw [← padJ_done]
  unfold padJ padZ
  simp only [List.getD, List.getElem?_append]
  split
  · split
    · split
      · exact h j
      · cases hx : [128][j - l.length]? with
        | none => simp
        | some y =>
          have := List.mem_of_getElem? hx
          simp at this; subst this; simp
    · cases hx : (List.replicate (zerosN l.length) 0)[j - (l ++ [128]).length]? with
      | none => simp
      | some y =>
        have := List.mem_of_getElem? hx
        simp at this; simp [this.2]
  · cases hx : ((lenBytes l.length).take 8)[j - (l ++ [128] ++ List.replicate (zerosN l.length) 0).length]? with
    | none => simp
    | some y =>
      have := List.mem_of_mem_take (List.mem_of_getElem? hx)
      simp only [lenBytes, List.mem_cons, List.not_mem_nil, or_false] at this
      show y < 256
      rcases this with h | h | h | h | h | h | h | h <;> (subst h; exact Nat.mod_lt _ (by omega))
/-- The block number i of a message with its padding. -/
theorem blk_getD (p : List Nat) (i j : Nat) (hj : j < 64) : ((p.drop (64 * i)).take 64).getD j 0 = p.getD (64 * i + j) 0 := by
  simp only [List.getD, List.getElem?_take, List.getElem?_drop]
  rw [if_pos hj]
theorem blk_len (p : List Nat) (i N : Nat) (hN : p.length = 64 * N) (hi : i < N) : ((p.drop (64 * i)).take 64).length = 64 := by
  rw [List.length_take, List.length_drop, hN]; omega
theorem blk_lt (p : List Nat) (i : Nat) (h : ∀ j, p.getD j 0 < 256) (j : Nat) : ((p.drop (64 * i)).take 64).getD j 0 < 256 := by
  by_cases hj : j < 64
  · rw [blk_getD p i j hj]; exact h _
  · simp only [List.getD, List.getElem?_take]
    rw [if_neg hj]; simp
theorem blocksF_ok (p : List Nat) (n : Nat) : StOK (blocksF p n) := by
  cases n with
  | zero => exact StOK.first
  | succ n => exact StOK.add _ _
theorem blocksF_succ (p : List Nat) (i : Nat) : blocksF p (i + 1) = mixF (blocksF p i) ((p.drop (64 * i)).take 64) := by rw [blocksF]
/-- The bytes of so many words. -/
def outL (l : List Nat) (i : Nat) : List Nat := (l.take i).flatMap wordBytes
theorem outL_zero (l : List Nat) : outL l 0 = [] := rfl
theorem outL_step (l : List Nat) (i : Nat) (h : i < l.length) : outL l i ++ wordBytes (l.getD i 0) = outL l (i + 1) := by
  unfold outL
  rw [List.take_add_one, List.flatMap_append, List.getElem?_eq_getElem h, List.getD, List.getElem?_eq_getElem h]
  simp
theorem outL_len (l : List Nat) (i : Nat) (h : i ≤ l.length) : (outL l i).length = 4 * i := by
  induction i with
  | zero => rfl
  | succ i ih => rw [← outL_step l i (by omega), List.length_append, ih (by omega)]; simp [wordBytes]; omega
theorem outL_lt (l : List Nat) (i : Nat) : ∀ y ∈ outL l i, y < 256 := by
  intro y hy
  obtain ⟨x, _, hx⟩ := List.mem_flatMap.1 hy
  simp only [wordBytes, List.mem_cons, List.not_mem_nil, or_false] at hx
  rcases hx with h | h | h | h <;> (subst h; exact Nat.mod_lt _ (by omega))
theorem outL_done (v : St) : outL (stL v) 8 = stBytes v := by
  simp [outL, stL, stBytes]
theorem shaF_eq (l : List Nat) (N : Nat) (hN : (padF l).length = 64 * N) : shaF l = outL (stL (blocksF (padF l) N)) 8 := by
  rw [outL_done, shaF, hN, Nat.mul_div_cancel_left _ (by omega)]
theorem shaF_len (l : List Nat) : (shaF l).length = 32 := by
  rw [shaF_eq l _ (padF_blocks l), outL_len _ 8 (by show 8 ≤ 8; omega)]
theorem shaF_lt (l : List Nat) : ∀ y ∈ shaF l, y < 256 := by
  rw [shaF_eq l _ (padF_blocks l)]; exact outL_lt _ _
end Go.Proofs.YtbllanmhbfnagaaDoor
