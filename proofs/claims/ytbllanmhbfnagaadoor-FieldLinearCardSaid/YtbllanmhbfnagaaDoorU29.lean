/- Rows of ints that came in; a matrix under making (of no law: memory alone). -/
import Derived.Test.YtbllanmhbfnagaaDoorU21
import Derived.Test.YtbllanmhbfnagaaDoorU27
set_option linter.unusedVariables false
set_option linter.unusedSimpArgs false
namespace Go.Proofs.YtbllanmhbfnagaaDoor
open Go.RowKit
/-- A slice of rows that can be read: each row a slice of ints that can be read. -/
structure ArgR (w : World) (ao : Option Addr) (n : Nat) (L : List (List Int)) : Prop where
  len : n = L.length
  here : 0 < n → ∃ g o, ao = some ⟨g, o, none⟩ ∧ g < w.heap.size ∧ ∀ i, i < n → ∃ ai ni ci, w.cell? ⟨g, o + i, none⟩ = some (.slice ai ni ci) ∧ ArgI w ai ni (L.getD i [])
theorem ArgI.kept {w w' : World} {S : Nat} {ao : Option Addr} {n : Nat} {l : List Int} (h : ArgI w ao n l) (hS : S = w.heap.size) (hb : Below S w w') : ArgI w' ao n l := by
  subst hS; exact h.below hb
theorem ArgR.below {w w' : World} {ao : Option Addr} {n : Nat} {L : List (List Int)} (h : ArgR w ao n L) (hb : Below w.heap.size w w') : ArgR w' ao n L :=
  ⟨h.len, fun hn => by
    obtain ⟨g, o, he, hg, hr⟩ := h.here hn
    refine ⟨g, o, he, Nat.lt_of_lt_of_le hg hb.size, fun i hi => ?_⟩
    obtain ⟨ai, ni, ci, hc, ha⟩ := hr i hi
    exact ⟨ai, ni, ci, (hb.cell hg).trans hc, ha.below hb⟩⟩
/-- Rows under making: like RowsW, but the headers' slice may be nil yet, or move. -/
structure PartR (w : World) (B cap C : Nat) (ao : Option Addr) (hs : List (Nat × Nat × Nat)) (M : List (List Int)) : Prop where
  top : OwnS w B cap (hs.map (hv C)) ao
  len : hs.length = M.length
  each : ∀ i h, hs[i]? = some h → OwnAt w B h.1 h.2.1 h.2.2 (iv (M.getD i []))
  wide : ∀ i, i < M.length → (M.getD i []).length = C
  dist : ∀ (i j : Nat) (x y : Nat × Nat × Nat), hs[i]? = some x → hs[j]? = some y → x.1 = y.1 → i = j
  apart : ∀ h ∈ hs, blk ao ≠ some h.1
theorem PartR.nil (w : World) (B C : Nat) : PartR w B 0 C none [] [] :=
  ⟨.nil rfl rfl, rfl, fun i h hi => by simp at hi, fun i hi => by simp at hi, fun i j x y hi => by simp at hi, fun h hm => by simp at hm⟩
theorem PartR.keep {w w' : World} {B cap C : Nat} {ao : Option Addr} {hs : List (Nat × Nat × Nat)} {M : List (List Int)} (h : PartR w B cap C ao hs M) (hb : ∀ g, g < w.heap.size → w'.heap[g]? = w.heap[g]?) (hz : w.heap.size ≤ w'.heap.size) : PartR w' B cap C ao hs M :=
  ⟨h.top.of_block (fun g _ hg => hb g hg) hz, h.len, fun i x hx => (h.each i x hx).of_block (hb x.1 (h.each i x hx).lt) hz, h.wide, h.dist, h.apart⟩
theorem PartR.step {w w' : World} {B cap C : Nat} {ao : Option Addr} {hs : List (Nat × Nat × Nat)} {M : List (List Int)} (h : PartR w B cap C ao hs M) (hb : Below w.heap.size w w') : PartR w' B cap C ao hs M :=
  h.keep (fun g hg => hb.block g hg) hb.size
/-- What only may turn blocks from T on leaves it, where all of it lies below T. -/
structure PartT (w : World) (T B cap C : Nat) (ao : Option Addr) (hs : List (Nat × Nat × Nat)) (M : List (List Int)) : Prop where
  part : PartR w B cap C ao hs M
  tb : ∀ g, blk ao = some g → g < T
  rb : ∀ g, rowB hs g → g < T
theorem PartR.atT {w : World} {B cap C : Nat} {ao : Option Addr} {hs : List (Nat × Nat × Nat)} {M : List (List Int)} (h : PartR w B cap C ao hs M) : PartT w w.heap.size B cap C ao hs M := by
  refine ⟨h, fun g hg => ?_, fun g hg => ?_⟩
  · have ht := h.top
    cases ht with
    | nil => cases hg
    | «at» g' off h' =>
      obtain rfl : g' = g := Option.some.inj hg
      exact h'.lt
  · obtain ⟨x, hx, rfl⟩ := hg
    obtain ⟨i, hi⟩ := List.mem_iff_getElem?.1 hx
    exact (h.each i x hi).lt
theorem PartT.later {w w' : World} {T B cap C : Nat} {ao : Option Addr} {hs : List (Nat × Nat × Nat)} {M : List (List Int)} (h : PartT w T B cap C ao hs M) (hb : Below T w w') : PartT w' T B cap C ao hs M :=
  ⟨⟨h.part.top.of_block (fun g hg _ => hb.block g (h.tb g hg)) hb.size, h.part.len, fun i x hx => (h.part.each i x hx).of_block (hb.block x.1 (h.rb x.1 ⟨x, List.mem_of_getElem? hx, rfl⟩)) hb.size, h.part.wide, h.part.dist, h.part.apart⟩, h.tb, h.rb⟩
theorem getD_app_last {α : Type} (l : List α) (x d : α) : (l ++ [x]).getD l.length d = x := by simp [List.getD]
theorem getD_app_lt {α : Type} (l : List α) (x d : α) (i : Nat) (h : i < l.length) : (l ++ [x]).getD i d = l.getD i d := by
  simp only [List.getD]
  rw [List.getElem?_append_left h]
/-- A ROW IS ADDED: the row is new (from T on); the headers' slice grew where only its own block could turn. -/
theorem PartT.add {w w' : World} {T B cap C : Nat} {ao : Option Addr} {hs : List (Nat × Nat × Nat)} {M : List (List Int)} (h : PartT w T B cap C ao hs M) {g o c : Nat} {row : List Int} (hrow : OwnAt w T g o c (iv row)) (hBT : B ≤ T) (hC : row.length = C)
    {g' off cap' : Nat} (htop : OwnAt w' B g' off cap' (hs.map (hv C) ++ [hv C (g, o, c)])) (hgr : w.grownBy w' (blk ao)) (hor : blk ao = some g' ∨ w.heap.size ≤ g') :
    PartR w' B cap' C (some ⟨g', off, none⟩) (hs ++ [(g, o, c)]) (M ++ [row]) := by
  have hg' : g' ≠ g := by
    rcases hor with e | e
    · have := h.tb g' e; have := hrow.own; omega
    · have := hrow.lt; omega
  have hkeep : ∀ k, k < w.heap.size → blk ao ≠ some k → w'.heap[k]? = w.heap[k]? := fun k hk hr => hgr.block k hk (fun e => hr e.symm)
  have hl := h.part.len
  have hgk : blk ao ≠ some g := fun e => by have := h.tb g e; have := hrow.own; omega
  refine ⟨?_, by simp [hl], ?_, ?_, ?_, ?_⟩
  · rw [List.map_append]
    exact htop.s
  · intro i x hx
    rcases Nat.lt_or_ge i hs.length with hi | hi
    · rw [List.getElem?_append_left hi] at hx
      rw [getD_app_lt _ _ _ _ (by omega)]
      have hxm := List.mem_of_getElem? hx
      exact (h.part.each i x hx).of_block (hkeep x.1 (h.part.each i x hx).lt (h.part.apart x hxm)) hgr.size
    · have hi2 : i = hs.length := by
        have := (List.getElem?_eq_some_iff.1 hx).1
        simp at this
        omega
      subst hi2
      rw [List.getElem?_append_right (Nat.le_refl _), Nat.sub_self] at hx
      obtain rfl : (g, o, c) = x := Option.some.inj hx
      rw [hl, getD_app_last]
      have := hrow.of_block (hkeep g hrow.lt hgk) hgr.size
      exact ⟨Nat.le_trans hBT this.own, this.lt, this.le, this.max, this.cells, this.room, this.warm⟩
  · intro i hi
    simp at hi
    rcases Nat.lt_or_ge i M.length with h1 | h1
    · rw [getD_app_lt _ _ _ _ h1]; exact h.part.wide i h1
    · obtain rfl : i = M.length := by omega
      rw [getD_app_last]; exact hC
  · have hcase : ∀ (i : Nat) (x : Nat × Nat × Nat), (hs ++ [(g, o, c)])[i]? = some x → (i < hs.length ∧ hs[i]? = some x ∧ x.1 < T) ∨ (i = hs.length ∧ x.1 = g) := fun i x hx => by
      rcases Nat.lt_or_ge i hs.length with hi | hi
      · rw [List.getElem?_append_left hi] at hx
        exact .inl ⟨hi, hx, h.rb x.1 ⟨x, List.mem_of_getElem? hx, rfl⟩⟩
      · have h2 := (List.getElem?_eq_some_iff.1 hx).1
        simp at h2
        obtain rfl : i = hs.length := by omega
        rw [List.getElem?_append_right (Nat.le_refl _), Nat.sub_self] at hx
        obtain rfl : (g, o, c) = x := Option.some.inj hx
        exact .inr ⟨rfl, rfl⟩
    have hgT := hrow.own
    intro i j x y hx hy he
    rcases hcase i x hx with ⟨h1, h2, h3⟩ | ⟨h1, h2⟩ <;> rcases hcase j y hy with ⟨k1, k2, k3⟩ | ⟨k1, k2⟩
    · exact h.part.dist i j x y h2 k2 he
    · omega
    · omega
    · omega
  · intro x hx
    show some g' ≠ some x.1
    intro e
    have e : g' = x.1 := Option.some.inj e
    rcases List.mem_append.1 hx with hm | hm
    · rcases hor with k | k
      · exact h.part.apart x hm (by rw [k, e])
      · obtain ⟨i, hi⟩ := List.mem_iff_getElem?.1 hm
        have := (h.part.each i x hi).lt
        omega
    · obtain rfl : x = (g, o, c) := by simpa using hm
      exact hg' e
/-- The matrix at A, whole. -/
theorem PartR.mat {w : World} {B A R ro cap C : Nat} {q cols : Int} {hs : List (Nat × Nat × Nat)} {M : List (List Int)} (h : PartR w B cap C (some ⟨R, ro, none⟩) hs M) (hq : w.cell? ⟨A, 0, none⟩ = some (.int .i64 q)) (hr : w.cell? ⟨A, 1, none⟩ = some (.slice (some ⟨R, ro, none⟩) M.length cap))
    (hc : w.cell? ⟨A, 2, none⟩ = some (.int .i64 cols)) (hB : B ≤ A) (hlt : A < w.heap.size) (hAR : A ≠ R) (hAb : ∀ x ∈ hs, x.1 ≠ A) : MatW w B A R ro cap C q cols hs M := by
  refine ⟨⟨?_, h.len, h.each, h.wide, h.dist, fun x hx e => h.apart x hx (by rw [e]; rfl)⟩, hq, hr, hc, hB, hlt, hAR, hAb⟩
  have ht := h.top
  cases ht with
  | «at» g off h' => exact h'
end Go.Proofs.YtbllanmhbfnagaaDoor
