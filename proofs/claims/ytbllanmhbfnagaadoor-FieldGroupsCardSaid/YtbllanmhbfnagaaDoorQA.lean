/- Tables of bools, lists of ints that the call made (of no law): what the walks of FieldCyclic and of the linear ones need. -/
import Derived.Test.YtbllanmhbfnagaaDoorSI
import Derived.Test.YtbllanmhbfnagaaDoorG0
set_option linter.unusedVariables false
set_option linter.unusedSimpArgs false
namespace Go.Proofs.YtbllanmhbfnagaaDoor
open Go.RowKit
/-- Bools as the cells of an array. -/
def bcells (l : List Bool) : Array Value := (l.map Value.bool).toArray
theorem bcells_size (l : List Bool) : (bcells l).size = l.length := by simp [bcells]
theorem bcells_at (l : List Bool) (j : Nat) (h : j < l.length) : (bcells l)[j]? = some (.bool (l.getD j false)) := by simp [bcells, List.getD, h]
theorem bcells_set (l : List Bool) (j : Nat) (x : Bool) : (bcells l).setIfInBounds j (.bool x) = bcells (l.set j x) := by
  simp [bcells, List.map_set]
/-- Block g is an array of bools. -/
def HasB (w : World) (g : Nat) (l : List Bool) : Prop := w.heap[g]? = some (.cells (bcells l) 4 (0, 0))
theorem HasB.cell {w : World} {g : Nat} {l : List Bool} (h : HasB w g l) (j : Nat) (hj : j < l.length) : w.cell? ⟨g, j, none⟩ = some (.bool (l.getD j false)) := by
  rw [cell_of_row w g j _ _ _ h, bcells_at l j hj]
theorem HasB.free {w : World} {g : Nat} {l : List Bool} (h : HasB w g l) (j : Nat) : w.frozen? ⟨g, j, none⟩ = false := frozen_of_row w g j _ _ h
theorem HasB.set {w : World} {g : Nat} {l : List Bool} (h : HasB w g l) (j : Nat) (x : Bool) : HasB (w.setCell ⟨g, j, none⟩ (.bool x)) g (l.set j x) := by
  unfold HasB; rw [heap_setCell_same w g j _ _ _ h, bcells_set]
theorem HasB.lt {w : World} {g : Nat} {l : List Bool} (h : HasB w g l) : g < w.heap.size := (Array.getElem?_eq_some_iff.1 h).1
theorem HasB.below {w w' : World} {g B : Nat} {l : List Bool} (h : HasB w g l) (hb : Below B w w') (hg : g < B) : HasB w' g l := by
  unfold HasB; rw [hb.block g hg]; exact h
theorem HasB.step {w w' : World} {g : Nat} {l : List Bool} (h : HasB w g l) (hb : Below w.heap.size w w') : HasB w' g l := h.below hb h.lt
theorem HasB.other {w : World} {g : Nat} {l : List Bool} (h : HasB w g l) (a : Addr) (v : Value) (ha : a.block ≠ g) : HasB (w.setCell a v) g l := by
  unfold HasB; rw [heap_setCell_other w a g v (fun e => ha e.symm)]; exact h
theorem HasB.new (w : World) (l : List Bool) : HasB (w.alloc (.cells (bcells l) 4)) w.heap.size l := heap_alloc_new w _
theorem HasG.other {w : World} {A : Nat} {P Q G : Int} (h : HasG w A P Q G) (a : Addr) (v : Value) (ha : a.block ≠ A) : HasG (w.setCell a v) A P Q G := by
  unfold HasG; rw [heap_setCell_other w a A v (fun e => ha e.symm)]; exact h
theorem below_setCell {B : Nat} {a w : World} (h : Below B a w) {p : Addr} (hp : B ≤ p.block) (v : Value) : Below B a (w.setCell p v) :=
  h.trans ⟨rfl, rfl, rfl, by simp, fun k hk => heap_setCell_other w p k v (by omega)⟩
/-- Ints as cells. -/
def iv (l : List Int) : List Value := l.map (Value.int .i64)
theorem iv_length (l : List Int) : (iv l).length = l.length := by simp [iv]
theorem iv_append (l m : List Int) : iv (l ++ m) = iv l ++ iv m := by simp [iv]
theorem iv_at (l : List Int) (j : Nat) (h : j < l.length) : (iv l)[j]? = some (.int .i64 (l.getD j 0)) := by simp [iv, List.getD, h]
theorem iv_one (l : List Int) : ∀ u ∈ iv l, u.oneCell' = true := by
  intro u hu
  obtain ⟨x, _, rfl⟩ := List.mem_map.1 hu
  rfl
theorem info_int : (Tryd.prog.info? 3).map (fun i => (i.zero, i.size, i.bytes)) = some (some (.int .i64 0), 1, 8) := by kernel_rfl
/-- An append of ints that were just built. -/
theorem app_ints {ops : Array Oper} {rest : List Oper} {o : Oper} {a : Act} {Q : Exit → Act → World → Prop} (w1 : World) (B : Nat)
    (hg : o.guard = none) (s x : Operand) (hop : o.op = Op.call { callee := Callee.builtin Builtin.append, args := #[s, x], argTypes := #[42, 42] })
    (ao : Option Addr) (cap n : Nat) (l : List Int) (hn : n = l.length) (hs : a.eval s = .slice ao n cap) (hO : OwnS w1 B cap (iv l) ao) (hB : B ≤ w1.heap.size)
    (m c : Nat) (cs : Array Value) (te : TypeId) (news : List Int) (hx : a.eval x = .slice (some ⟨w1.heap.size, 0, none⟩) m c) (hcs : cs.toList = iv news) (hm : news.length = m) (hm0 : 0 < m)
    (b1 : n + m ≤ 1000000000)
    (hK : ∀ g off cap' w', OwnAt w' B g off cap' (iv (l ++ news)) → Below B w1 w' → wpList Tryd.prog ops Q rest (a.put o.dst (.slice (some ⟨g, off, none⟩) (n + m) cap')) w') :
    wpList Tryd.prog ops Q (o :: rest) a (w1.alloc (.cells cs te)) := by
  obtain ⟨i0, hi, hz0, hz1, hz2⟩ := info_parts info_int
  refine wpList_append_new w1 B hg s x 42 hop 3 i0 (.int .i64 0) 8 Tryd.underlying42 hi hz0 hz1 hz2 rfl ao cap (iv l) n (by rw [iv_length]; exact hn) hs hO hB m c cs te hx
    (by rw [← Array.length_toList, hcs, iv_length]; exact hm) hm0 (by rw [hcs]; exact iv_one _) (by simp only [maxLen]; omega) (by omega) ?_
  intro g off cap' w' h _ hb _
  refine hK g off cap' w' ?_ hb
  rw [iv_append, ← hcs]
  exact h
end Go.Proofs.YtbllanmhbfnagaaDoor
