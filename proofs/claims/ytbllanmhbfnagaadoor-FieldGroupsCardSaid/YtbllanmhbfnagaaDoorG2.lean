/- Slices that the call owns (of no program): an empty one; a copy by append onto an empty one. -/
import Derived.Test.YtbllanmhbfnagaaDoorG0
set_option linter.unusedVariables false
set_option linter.unusedSimpArgs false
namespace Go.Proofs.YtbllanmhbfnagaaDoor
open Go.RowKit
theorem own_new0 (w : World) (t : TypeId) (B : Nat) (hB : B ≤ w.heap.size) : OwnAt (w.alloc (.cells #[] t)) B w.heap.size 0 0 [] :=
  ⟨hB, by simp, Nat.le_refl _, by simp [maxLen], fun j u h => by simp at h, fun j h => absurd h (Nat.not_lt_zero j), fun j h => absurd h (Nat.not_lt_zero j)⟩
theorem cell_setCell_at (w : World) (g i k : Nat) (x : Value) (hs : (w.cell? ⟨g, i, none⟩).isSome = true) : (w.setCell ⟨g, i, none⟩ x).cell? ⟨g, k, none⟩ = if i = k then some x else w.cell? ⟨g, k, none⟩ := by
  by_cases h : i = k
  · rw [if_pos h]
    subst h
    obtain ⟨u, hu⟩ := Option.isSome_iff_exists.1 hs
    apply World.cell?_setCell_same
    exact hu
  · rw [if_neg h]
    apply World.cell?_setCell_other
    intro e
    injection e with e1 e2
    exact h e2
/-- A STORE into a slice that the call owns. -/
theorem OwnAt.set {w : World} {B g off cap : Nat} {xs : List Value} (h : OwnAt w B g off cap xs) (j : Nat) (u : Value) (hj : j < xs.length) : OwnAt (w.setCell ⟨g, off + j, none⟩ u) B g off cap (xs.set j u) := by
  have hle := h.le
  have hc := fun k => cell_setCell_at w g (off + j) (off + k) u (h.room j (by omega))
  refine ⟨h.own, by rw [World.size_setCell]; exact h.lt, by rw [List.length_set]; exact h.le, h.max, ?_, ?_, ?_⟩
  · intro k v hk
    rw [hc k]
    rw [List.getElem?_set] at hk
    by_cases e : j = k
    · rw [if_pos e, if_pos (by omega)] at hk
      rw [if_pos (by omega)]
      exact hk
    · rw [if_neg e] at hk
      rw [if_neg (by omega)]
      exact h.cells k v hk
  · intro k hk
    rw [hc k]
    split
    · rfl
    · exact h.room k hk
  · intro k hk
    rw [World.frozen?_setCell]
    exact h.warm k hk
/-- A COPY: 'append([]T{}, x...)', the elements of one cell. -/
theorem wpList_append_copy {P : Program} (w2 : World) (B : Nat) {ops : Array Oper} {rest : List Oper} {o : Oper} {a : Act} {Q : Exit → Act → World → Prop}
    (hg : o.guard = none) (s x : Operand) (t : TypeId) (hop : o.op = Op.call { callee := Callee.builtin Builtin.append, args := #[s, x], argTypes := #[t, t] })
    (e : TypeId) (i : TypeInfo) (z : Value) (bytes : Nat) (h1 : P.underlying t = some (.slice e)) (h2 : P.info? e = some i) (h3 : i.zero = some z) (h4 : i.size = 1) (h5 : i.bytes = bytes) (h6 : z.cells.size = 1)
    (te : TypeId) (hs : a.eval s = .slice (some ⟨w2.heap.size, 0, none⟩) 0 0) (hB : B ≤ w2.heap.size)
    (ad : Addr) (m c : Nat) (news : List Value) (hx : a.eval x = .slice (some ad) m c) (hm : news.length = m) (hc : ∀ j u, news[j]? = some u → w2.cell? (ad.add j) = some u) (had : ad.block < w2.heap.size) (h1c : ∀ u ∈ news, u.oneCell' = true)
    (b1 : m ≤ maxLen) (b2 : m * bytes ≤ 140737488355328)
    (hK : ∀ g off cap' w', OwnAt w' B g off cap' news → Below w2.heap.size w2 w' → w2.heap.size ≤ g → wpList P ops Q rest (a.put o.dst (.slice (some ⟨g, off, none⟩) m cap')) w') :
    wpList P ops Q (o :: rest) a (w2.alloc (.cells #[] te)) := by
  have hA : Below w2.heap.size w2 (w2.alloc (.cells #[] te)) := (Below.refl _ _).alloc (Nat.le_refl _) _
  rcases Nat.eq_zero_or_pos m with hm0 | hm0
  · subst hm0
    obtain rfl : news = [] := List.length_eq_zero_iff.1 hm
    refine wpList_append_arg _ hg s x t hop e i z 1 bytes h1 h2 h3 h4 h5 h6 (by omega) w2.heap.size 0 0 0 [] hs rfl (fun j u h => by simp at h) ad 0 c [] hx rfl (fun j u h => by simp at h) (fun u h => by cases h) (fun _ j hj => absurd hj (Nat.not_lt_zero j)) (by simp [maxLen]) (by omega) ?_ ?_
    · intro _
      exact hK w2.heap.size 0 0 _ (own_new0 w2 te B hB) hA (Nat.le_refl _)
    · intro h; omega
  refine wpList_append_owns _ B hg s x t hop e i z bytes h1 h2 h3 h4 h5 h6 (some ⟨w2.heap.size, 0, none⟩) 0 [] 0 rfl hs (.at _ _ (own_new0 w2 te B hB)) (Nat.le_trans hB hA.size) ad m c news hx hm hm0 (fun j u hj => ?_) h1c (by rw [Nat.zero_add]; exact b1) (by rw [Nat.zero_add]; exact b2) ?_
  · have hb : (ad.add j).block = ad.block := by obtain ⟨b, o, p⟩ := ad; cases p <;> first | rfl | (simp only [Addr.add]; split <;> rfl)
    rw [hA.cell (p := ad.add j) (by rw [hb]; exact had)]
    exact hc j u hj
  · intro g off cap' w' h hgr hor
    rw [Nat.zero_add]
    refine hK g off cap' w' h ⟨hgr.os.trans hA.os, hgr.tape.trans hA.tape, hgr.output.trans hA.output, Nat.le_trans hA.size hgr.size, fun k hk => ?_⟩ ?_
    · rw [hgr.block k (Nat.lt_of_lt_of_le hk hA.size) (fun e => by have e' : k = w2.heap.size := Option.some.inj e; omega)]
      exact hA.block k hk
    · rcases hor with h | h
      · have e' : w2.heap.size = g := Option.some.inj h
        omega
      · exact Nat.le_trans hA.size h
end Go.Proofs.YtbllanmhbfnagaaDoor
