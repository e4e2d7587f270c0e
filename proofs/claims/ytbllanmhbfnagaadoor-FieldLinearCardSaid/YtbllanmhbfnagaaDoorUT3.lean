/- Rows whose arguments lie in memory: slices of rows of ints, opened. -/
import Derived.Deep.Matrix
import Derived.OpenShut
import Derived.Test.YtbllanmhbfnagaaDoorU28
import Derived.Test.YtbllanmhbfnagaaDoorU30
set_option linter.unusedVariables false
set_option linter.unusedSimpArgs false
namespace Go.Proofs.YtbllanmhbfnagaaDoor
open Go Go.ChangeShapes Go.WideShapes Go.ChangeAt Go.WideMaps Go.WideElems Go.RowKit Go.Joins
theorem addr_at {w : World} {a : Addr} {n : Nat} (h : ∀ i, i < n → ∃ v, w.cell? (a.add i) = some v) (hp : 0 < n) : ∃ b off, a = ⟨b, off, none⟩ := by
  obtain ⟨b, off, spot⟩ := a
  obtain ⟨v, hv⟩ := h 0 hp
  have hspot : spot = none := by simpa [Addr.add] using World.cell?_spot hv
  subst hspot
  exact ⟨b, off, rfl⟩
set_option maxRecDepth 100000 in
/-- A slice of rows of ints that came in, opened. -/
theorem argR_open {H : Type} {enc : TypeId × Value → H} {W : World} {r : Reach} {b0 : Nat} {v : Value} {d : DataW H} {p : List MemPlace} (hv : Value.okWide Tryd.prog W r b0 52 v)
    (h : DataW.Trod enc Tryd.prog W 0 (fun _ => true) true 52 v d p) : ∃ (ao : Option Addr) (n c : Nat) (L : List (List Int)), v = .slice ao n c ∧ ArgR W ao n L ∧ n ≤ c ∧ n ≤ maxLen := by
  obtain ⟨a0, len, cap, rfl⟩ := okWide_slice Tryd.underlying52 hv
  obtain ⟨fuel, hf⟩ := h
  rcases Go.Deep.open_int_rows Tryd.underlying52 Tryd.underlying42 Tryd.underlying3 (by kernel_rfl) (by kernel_rfl) hf with ⟨hcs, hx⟩ | ⟨a, len', cap', A, L, C, Z, hcs, hb, hl, hm, hx, hrow⟩
  · have e : Value.slice a0 len cap = .slice none 0 0 := by simpa [Value.cells] using hcs
    injection e with e1 e2 e3
    subst e1 e2 e3
    exact ⟨none, 0, 0, [], rfl, ⟨rfl, fun h => absurd h (Nat.lt_irrefl 0)⟩, Nat.le_refl _, Nat.zero_le _⟩
  · have e : Value.slice a0 len cap = .slice (some a) len' cap' := by simpa [Value.cells] using hcs
    injection e with e1 e2 e3
    subst e1 e2 e3
    refine ⟨some a, len, cap, (List.range len).map (fun i => (Z i).take (L i)), rfl, ⟨by simp, ?_⟩, hl, Nat.le_trans hl hm⟩
    intro hn
    obtain ⟨b, off, rfl⟩ := addr_at (n := cap) (fun i hi => ⟨_, (hrow i hi).1⟩) (by omega)
    have hbl : b < W.heap.size := by
      have := block_lt_of_cell (hrow 0 (by omega)).1
      exact this
    refine ⟨b, off, rfl, hbl, fun i hi => ?_⟩
    obtain ⟨h1, h2, h3, h4, h5, h6, h7⟩ := hrow i (by omega)
    refine ⟨A i, L i, C i, by rw [← Go.WideShapes.add_plain]; exact h1, ?_⟩
    have hget : ((List.range len).map (fun i => (Z i).take (L i))).getD i [] = (Z i).take (L i) := by simp [List.getD, hi]
    rw [hget]
    refine ⟨by rw [List.length_take, h4]; omega, fun hL => ?_⟩
    cases hA : A i with
    | none => have := h6 hA; omega
    | some a' =>
      obtain ⟨_, hc⟩ := h7 a' hA
      obtain ⟨b', off', rfl⟩ := addr_at (n := C i) (fun j hj => ⟨_, hc j hj⟩) (by omega)
      have hbl' : b' < W.heap.size := by
        have := block_lt_of_cell (hc 0 (by omega))
        exact this
      refine ⟨b', off', rfl, fun j hj => ?_, hbl'⟩
      rw [← Go.WideShapes.add_plain, hc j (by omega)]
      congr 2
      simp [List.getD, hj]
end Go.Proofs.YtbllanmhbfnagaaDoor
