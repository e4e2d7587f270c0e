/- Slices that the call owns (of no program): a window of cells (one cell an element) in a block of the call's own, with its spare cells; what an append, a store, other writes do to it. Slices that the call owns (of no program): an empty one; a copy by append onto an empty one. -/
import Derived.WalkKit
import Derived.WalkSpells
import Derived.WalkLawsBesides
import Derived.ArgAppend
import Derived.Below
set_option linter.unusedVariables false
set_option linter.unusedSimpArgs false
namespace Go.Proofs.YtbllanmhbfnagaaDoor
open Go.RowKit

/-- Cells of one window read as xs. -/
def Reads (w : World) (g off : Nat) (xs : List Value) : Prop := ∀ j u, xs[j]? = some u → w.cell? ⟨g, off + j, none⟩ = some u
theorem Reads.of_block {w w' : World} {g off : Nat} {xs : List Value} (h : Reads w g off xs) (hb : w'.heap[g]? = w.heap[g]?) : Reads w' g off xs := fun j u hj => by
  rw [World.cell?_of_block (a := ⟨g, off + j, none⟩) hb]; exact h j u hj

/-- A window that the call owns: from block B on; its cells up to the capacity are there and may be written. -/
structure OwnAt (w : World) (B g off cap : Nat) (xs : List Value) : Prop where
  own : B ≤ g
  lt : g < w.heap.size
  le : xs.length ≤ cap
  max : cap ≤ maxLen
  cells : Reads w g off xs
  room : ∀ j, j < cap → (w.cell? ⟨g, off + j, none⟩).isSome = true
  warm : ∀ j, j < cap → w.frozen? ⟨g, off + j, none⟩ = false

/-- A slice of elements of one cell that the call owns, and what it holds. -/
inductive OwnS (w : World) (B cap : Nat) (xs : List Value) : Option Addr → Prop
  | nil (h : xs = []) (hc : cap = 0) : OwnS w B cap xs none
  | at (g off : Nat) (h : OwnAt w B g off cap xs) : OwnS w B cap xs (some ⟨g, off, none⟩)

/-- The block of an address. -/
def blk : Option Addr → Option Nat
  | some a => some a.block
  | none => none

theorem OwnAt.of_block {w w' : World} {B g off cap : Nat} {xs : List Value} (h : OwnAt w B g off cap xs) (hb : w'.heap[g]? = w.heap[g]?) (hs : w.heap.size ≤ w'.heap.size) : OwnAt w' B g off cap xs :=
  ⟨h.own, Nat.lt_of_lt_of_le h.lt hs, h.le, h.max, h.cells.of_block hb, fun j hj => by rw [World.cell?_of_block (a := ⟨g, off + j, none⟩) hb]; exact h.room j hj,
    fun j hj => by rw [World.frozen?_of_block (a := ⟨g, off + j, none⟩) hb]; exact h.warm j hj⟩
theorem OwnS.of_block {w w' : World} {B cap : Nat} {xs : List Value} {ao : Option Addr} (h : OwnS w B cap xs ao) (hb : ∀ g, blk ao = some g → g < w.heap.size → w'.heap[g]? = w.heap[g]?) (hs : w.heap.size ≤ w'.heap.size) : OwnS w' B cap xs ao := by
  cases h with
  | nil h hc => exact .nil h hc
  | «at» g off h => exact .at g off (h.of_block (hb g rfl h.lt) hs)
theorem OwnS.drewN {w : World} {B cap : Nat} {xs : List Value} {ao : Option Addr} (h : OwnS w B cap xs ao) (m : Nat) : OwnS (w.drewN m) B cap xs ao :=
  h.of_block (fun _ _ _ => rfl) (Nat.le_refl _)
theorem OwnS.below {w w' : World} {B cap : Nat} {xs : List Value} {ao : Option Addr} (h : OwnS w B cap xs ao) (hb : Below w.heap.size w w') : OwnS w' B cap xs ao :=
  h.of_block (fun g _ hg => hb.block g hg) hb.size
theorem OwnS.grown {w w' : World} {B cap : Nat} {xs : List Value} {ao : Option Addr} (h : OwnS w B cap xs ao) {row : Option Nat} (hg : w.grownBy w' row) (hr : blk ao ≠ row ∨ blk ao = none) : OwnS w' B cap xs ao :=
  h.of_block (fun g e hl => hg.block g hl (fun e' => by rcases hr with hr | hr; exact hr (e.trans e'); rw [hr] at e; cases e)) hg.size
theorem OwnS.setCell {w : World} {B cap : Nat} {xs : List Value} {ao : Option Addr} (h : OwnS w B cap xs ao) {p : Addr} (u : Value) (hp : blk ao ≠ some p.block) : OwnS (w.setCell p u) B cap xs ao :=
  h.of_block (fun g e hl => Below.heap_setCell _ _ _ _ (fun e' => hp (by rw [e, e']))) (by simp [World.setCell])
theorem OwnS.len_le {w : World} {B cap : Nat} {xs : List Value} {ao : Option Addr} (h : OwnS w B cap xs ao) : xs.length ≤ cap := by
  cases h with
  | nil h hc => simp [h]
  | «at» g off h => exact h.le

theorem heap_setCells (b : Nat) : ∀ (vs : List Value) (o : Nat) (w : World) (k : Nat), k ≠ b → (w.setCells b o vs).heap[k]? = w.heap[k]?
  | [], _, _, _, _ => rfl
  | v :: vs, o, w, k, h => by
    show ((w.setCell ⟨b, o, none⟩ v).setCells b (o + 1) vs).heap[k]? = _
    rw [heap_setCells b vs (o + 1) _ k h, Below.heap_setCell _ _ _ _ h]
theorem size_setCells (b : Nat) : ∀ (vs : List Value) (o : Nat) (w : World), (w.setCells b o vs).heap.size = w.heap.size
  | [], _, _ => rfl
  | v :: vs, o, w => by
    show ((w.setCell ⟨b, o, none⟩ v).setCells b (o + 1) vs).heap.size = _
    rw [size_setCells b vs (o + 1) _]; simp [World.setCell]
theorem setCells_streams (b : Nat) : ∀ (vs : List Value) (o : Nat) (w : World), (w.setCells b o vs).os = w.os ∧ (w.setCells b o vs).tape = w.tape ∧ (w.setCells b o vs).output = w.output
  | [], _, _ => ⟨rfl, rfl, rfl⟩
  | v :: vs, o, w => setCells_streams b vs (o + 1) (w.setCell ⟨b, o, none⟩ v)
theorem grownBy_setCells (b : Nat) (vs : List Value) (o : Nat) (w : World) : w.grownBy (w.setCells b o vs) (some b) :=
  ⟨(setCells_streams b vs o w).1, (setCells_streams b vs o w).2.1, (setCells_streams b vs o w).2.2, by rw [size_setCells]; exact Nat.le_refl _,
    fun k _ hk => heap_setCells b vs o w k (fun e => hk (by rw [e]))⟩
/-- Behind the cells from the length on are written: the window is longer. -/
theorem OwnAt.setCells {w : World} {B g off cap : Nat} {xs : List Value} (h : OwnAt w B g off cap xs) (news : List Value) (hr : xs.length + news.length ≤ cap) :
    OwnAt (w.setCells g (off + xs.length) news) B g off cap (xs ++ news) := by
  have hin : ∀ j (hj : j < news.length), (w.setCells g (off + xs.length) news).cell? ⟨g, off + xs.length + j, none⟩ = some news[j] :=
    World.cell?_setCells_in g news (off + xs.length) w (fun j hj => by rw [show off + xs.length + j = off + (xs.length + j) by omega]; exact h.room _ (by omega))
  refine ⟨h.own, by rw [size_setCells]; exact h.lt, by simp; omega, h.max, ?_, ?_, ?_⟩
  · intro j u hj
    by_cases hlt : j < xs.length
    · rw [List.getElem?_append_left hlt] at hj
      rw [World.cell?_setCells_out g news _ w _ (fun _ _ => .inl (by show off + j < off + xs.length; omega))]
      exact h.cells j u hj
    · rw [List.getElem?_append_right (by omega)] at hj
      obtain ⟨hl, rfl⟩ := List.getElem?_eq_some_iff.1 hj
      have := hin (j - xs.length) hl
      rwa [show off + xs.length + (j - xs.length) = off + j by omega] at this
  · intro j hj
    by_cases hlt : xs.length ≤ j ∧ j < xs.length + news.length
    · have := hin (j - xs.length) (by omega)
      rw [show off + xs.length + (j - xs.length) = off + j by omega] at this
      rw [this]; rfl
    · rw [World.cell?_setCells_out g news _ w _ (fun _ _ => by show off + j < off + xs.length ∨ off + xs.length + news.length ≤ off + j; omega)]
      exact h.room j hj
  · intro j hj
    rw [World.frozen?_setCells]
    exact h.warm j hj

/-- A row that the kit's laws of growing make is a window of the call's own. -/
theorem OwnS.of_row {w : World} {B : Nat} {e : TypeId} {v : Value} {n : Nat} {xs : List Value} (h : w.ownsRow B e 1 v n xs) (hn : 0 < n) :
    ∃ g cap, v = .slice (some ⟨g, 0, none⟩) xs.length cap ∧ OwnAt w B g 0 cap xs := by
  obtain ⟨hl, ⟨_, h0⟩ | ⟨g, cap, cur, rfl, hB, hg, hc, hm, hs, ht⟩⟩ := h
  · omega
  · have hcell : ∀ j, w.cell? ⟨g, 0 + j, none⟩ = cur[j]? := fun j => by simp [World.cell?, hg]
    have hlt : g < w.heap.size := by
      rcases Nat.lt_or_ge g w.heap.size with h' | h'
      · exact h'
      · simp [Array.getElem?_eq_none h'] at hg
    refine ⟨g, cap, by rw [hl, Nat.mul_one], hB, hlt, by omega, hm, ?_, ?_, ?_⟩
    · intro j u hj
      rw [hcell, ← Array.getElem?_toList]
      rw [← ht, List.getElem?_take] at hj
      split at hj <;> simp_all
    · intro j hj
      rw [hcell, Array.getElem?_eq_getElem (by omega)]; rfl
    · intro j hj
      simp [World.frozen?, hg]

/-- AN APPEND ONTO A SLICE THAT THE CALL OWNS (elements of one cell): both ways at once: what is behind it is owned again. -/
theorem wpList_append_owns {P : Program} (w : World) (B : Nat) {ops : Array Oper} {rest : List Oper} {o : Oper} {a : Act} {Q : Exit → Act → World → Prop}
    (hg : o.guard = none) (s x : Operand) (t : TypeId) (hop : o.op = Op.call { callee := Callee.builtin Builtin.append, args := #[s, x], argTypes := #[t, t] })
    (e : TypeId) (i : TypeInfo) (z : Value) (bytes : Nat) (h1 : P.underlying t = some (.slice e)) (h2 : P.info? e = some i) (h3 : i.zero = some z) (h4 : i.size = 1) (h5 : i.bytes = bytes) (h6 : z.cells.size = 1)
    (ao : Option Addr) (cap : Nat) (olds : List Value) (n : Nat) (hn : n = olds.length) (hs : a.eval s = .slice ao n cap) (hO : OwnS w B cap olds ao) (hB : B ≤ w.heap.size)
    (ad : Addr) (m c : Nat) (news : List Value) (hx : a.eval x = .slice (some ad) m c) (hm : news.length = m) (hm0 : 0 < m) (hc : ∀ j u, news[j]? = some u → w.cell? (ad.add j) = some u) (h1c : ∀ u ∈ news, u.oneCell' = true)
    (b1 : n + m ≤ maxLen) (b2 : (n + m) * bytes ≤ 140737488355328)
    (hK : ∀ g off cap' w', OwnAt w' B g off cap' (olds ++ news) → w.grownBy w' (blk ao) → (blk ao = some g ∨ w.heap.size ≤ g) → wpList P ops Q rest (a.put o.dst (.slice (some ⟨g, off, none⟩) (n + m) cap')) w') :
    wpList P ops Q (o :: rest) a w := by
  subst hn hm
  have hrow : ∀ v' w', w'.ownsRow w.heap.size e 1 v' (olds.length + news.length) (olds ++ news) → w.grownBy w' none →
      wpList P ops Q rest (a.put o.dst v') w' := by
    intro v' w' ho hgr
    obtain ⟨g, cap', rfl, hw⟩ := OwnS.of_row ho (by omega)
    rw [List.length_append]
    refine hK g 0 cap' w' ⟨Nat.le_trans hB hw.own, hw.lt, hw.le, hw.max, hw.cells, hw.room, hw.warm⟩ ⟨hgr.os, hgr.tape, hgr.output, hgr.size, fun k hk _ => hgr.block k hk (by simp)⟩ (.inr hw.own)
  cases hO with
  | nil h hc0 =>
    subst h hc0
    refine wpList_append_grows w hg s x t hop e i z 1 bytes h1 h2 h3 h4 h5 h6 (by omega) none 0 0 [] hs (fun _ => ⟨rfl, rfl⟩) rfl (fun b hb => by cases hb) ad news.length c news hx (by omega) hc h1c (by omega) b1 b2 ?_
    intro v' w' ho hgr
    exact hrow v' w' ho hgr
  | «at» g off h =>
    refine wpList_append_arg w hg s x t hop e i z 1 bytes h1 h2 h3 h4 h5 h6 (by omega) g off olds.length cap olds hs (by omega) h.cells ad news.length c news hx (by omega) hc h1c ?_ b1 b2 ?_ ?_
    · intro hr j hj
      rw [Nat.mul_one, show off + olds.length + j = off + (olds.length + j) by omega]
      exact ⟨h.room _ (by omega), h.warm _ (by omega)⟩
    · intro hr
      rw [Nat.mul_one]
      exact hK g off cap _ (h.setCells news hr) (grownBy_setCells g news _ w) (.inl rfl)
    · intro _
      exact hrow
theorem OwnAt.s {w : World} {B g off cap : Nat} {xs : List Value} (h : OwnAt w B g off cap xs) : OwnS w B cap xs (some ⟨g, off, none⟩) := .at g off h
theorem cells_new (w : World) (cs : Array Value) (t : TypeId) (j : Nat) : (w.alloc (.cells cs t)).cell? ((⟨w.heap.size, 0, none⟩ : Addr).add j) = cs[j]? := by
  rw [Addr.add_lit]
  have h := heap_alloc_new w (.cells cs t)
  simp only [World.cell?, h, Nat.zero_add]
  rfl
/-- AN APPEND OF WHAT WAS JUST BUILT onto a slice that the call owns: the world before the building is told of. -/
theorem wpList_append_new {P : Program} (w1 : World) (B : Nat) {ops : Array Oper} {rest : List Oper} {o : Oper} {a : Act} {Q : Exit → Act → World → Prop}
    (hg : o.guard = none) (s x : Operand) (t : TypeId) (hop : o.op = Op.call { callee := Callee.builtin Builtin.append, args := #[s, x], argTypes := #[t, t] })
    (e : TypeId) (i : TypeInfo) (z : Value) (bytes : Nat) (h1 : P.underlying t = some (.slice e)) (h2 : P.info? e = some i) (h3 : i.zero = some z) (h4 : i.size = 1) (h5 : i.bytes = bytes) (h6 : z.cells.size = 1)
    (ao : Option Addr) (cap : Nat) (olds : List Value) (n : Nat) (hn : n = olds.length) (hs : a.eval s = .slice ao n cap) (hO : OwnS w1 B cap olds ao) (hB : B ≤ w1.heap.size)
    (m c : Nat) (cs : Array Value) (te : TypeId) (hx : a.eval x = .slice (some ⟨w1.heap.size, 0, none⟩) m c) (hm : cs.size = m) (hm0 : 0 < m) (h1c : ∀ u ∈ cs.toList, u.oneCell' = true)
    (b1 : n + m ≤ maxLen) (b2 : (n + m) * bytes ≤ 140737488355328)
    (hK : ∀ g off cap' w', OwnAt w' B g off cap' (olds ++ cs.toList) → w1.grownBy w' (blk ao) → Below B w1 w' → (blk ao = some g ∨ w1.heap.size ≤ g) → wpList P ops Q rest (a.put o.dst (.slice (some ⟨g, off, none⟩) (n + m) cap')) w') :
    wpList P ops Q (o :: rest) a (w1.alloc (.cells cs te)) := by
  have hA : Below w1.heap.size w1 (w1.alloc (.cells cs te)) := (Below.refl _ _).alloc (Nat.le_refl _) _
  refine wpList_append_owns _ B hg s x t hop e i z bytes h1 h2 h3 h4 h5 h6 ao cap olds n hn hs (hO.below hA) (Nat.le_trans hB hA.size) ⟨w1.heap.size, 0, none⟩ m c cs.toList hx (by simpa using hm) hm0
    (fun j u hj => by rw [cells_new, ← Array.getElem?_toList]; exact hj) h1c b1 b2 ?_
  intro g off cap' w' h hgr hor
  have hgr' : w1.grownBy w' (blk ao) := ⟨hgr.os.trans hA.os, hgr.tape.trans hA.tape, hgr.output.trans hA.output, Nat.le_trans hA.size hgr.size,
    fun k hk hr => (hgr.block k (Nat.lt_of_lt_of_le hk hA.size) hr).trans (hA.block k hk)⟩
  refine hK g off cap' w' h hgr' ⟨hgr'.os, hgr'.tape, hgr'.output, hgr'.size, fun k hk => hgr'.block k (by omega) (fun e => ?_)⟩ ?_
  · cases hO with
    | nil => cases e
    | «at» g' off' h' => have := h'.own; have e' : g' = k := Option.some.inj e.symm; omega
  · rcases hor with h | h
    · exact .inl h
    · exact .inr (Nat.le_trans hA.size h)
end Go.Proofs.YtbllanmhbfnagaaDoor
namespace Go.Proofs.YtbllanmhbfnagaaDoor
open Go.RowKit
theorem own_new0 (w : World) (t : TypeId) (B : Nat) (hB : B ≤ w.heap.size) : OwnAt (w.alloc (.cells #[] t)) B w.heap.size 0 0 [] :=
  ⟨hB, by simp, Nat.le_refl _, by simp [maxLen], fun j u h => by simp at h, fun j h => absurd h (Nat.not_lt_zero j), fun j h => absurd h (Nat.not_lt_zero j)⟩
theorem cell_setCell_at (w : World) (g i k : Nat) (x : Value) (hs : (w.cell? ⟨g, i, none⟩).isSome = true) : (w.setCell ⟨g, i, none⟩ x).cell? ⟨g, k, none⟩ = if i = k then some x else w.cell? ⟨g, k, none⟩ := by
  by_cases h : i = k
  · rw [if_pos h]
    subst h
    obtain ⟨u, hu⟩ := Option.isSome_iff_exists.1 hs
    apply World.cell?_setCell_same
    exact hu
  · rw [if_neg h]
    apply World.cell?_setCell_other
    intro e
    injection e with e1 e2
    exact h e2
/-- A STORE into a slice that the call owns. -/
theorem OwnAt.set {w : World} {B g off cap : Nat} {xs : List Value} (h : OwnAt w B g off cap xs) (j : Nat) (u : Value) (hj : j < xs.length) : OwnAt (w.setCell ⟨g, off + j, none⟩ u) B g off cap (xs.set j u) := by
  have hle := h.le
  have hc := fun k => cell_setCell_at w g (off + j) (off + k) u (h.room j (by omega))
  refine ⟨h.own, by rw [World.size_setCell]; exact h.lt, by rw [List.length_set]; exact h.le, h.max, ?_, ?_, ?_⟩
  · intro k v hk
    rw [hc k]
    rw [List.getElem?_set] at hk
    by_cases e : j = k
    · rw [if_pos e, if_pos (by omega)] at hk
      rw [if_pos (by omega)]
      exact hk
    · rw [if_neg e] at hk
      rw [if_neg (by omega)]
      exact h.cells k v hk
  · intro k hk
    rw [hc k]
    split
    · rfl
    · exact h.room k hk
  · intro k hk
    rw [World.frozen?_setCell]
    exact h.warm k hk
/-- A COPY: 'append([]T{}, x...)', the elements of one cell. -/
theorem wpList_append_copy {P : Program} (w2 : World) (B : Nat) {ops : Array Oper} {rest : List Oper} {o : Oper} {a : Act} {Q : Exit → Act → World → Prop}
    (hg : o.guard = none) (s x : Operand) (t : TypeId) (hop : o.op = Op.call { callee := Callee.builtin Builtin.append, args := #[s, x], argTypes := #[t, t] })
    (e : TypeId) (i : TypeInfo) (z : Value) (bytes : Nat) (h1 : P.underlying t = some (.slice e)) (h2 : P.info? e = some i) (h3 : i.zero = some z) (h4 : i.size = 1) (h5 : i.bytes = bytes) (h6 : z.cells.size = 1)
    (te : TypeId) (hs : a.eval s = .slice (some ⟨w2.heap.size, 0, none⟩) 0 0) (hB : B ≤ w2.heap.size)
    (ad : Addr) (m c : Nat) (news : List Value) (hx : a.eval x = .slice (some ad) m c) (hm : news.length = m) (hc : ∀ j u, news[j]? = some u → w2.cell? (ad.add j) = some u) (had : ad.block < w2.heap.size) (h1c : ∀ u ∈ news, u.oneCell' = true)
    (b1 : m ≤ maxLen) (b2 : m * bytes ≤ 140737488355328)
    (hK : ∀ g off cap' w', OwnAt w' B g off cap' news → Below w2.heap.size w2 w' → w2.heap.size ≤ g → wpList P ops Q rest (a.put o.dst (.slice (some ⟨g, off, none⟩) m cap')) w') :
    wpList P ops Q (o :: rest) a (w2.alloc (.cells #[] te)) := by
  have hA : Below w2.heap.size w2 (w2.alloc (.cells #[] te)) := (Below.refl _ _).alloc (Nat.le_refl _) _
  rcases Nat.eq_zero_or_pos m with hm0 | hm0
  · subst hm0
    obtain rfl : news = [] := List.length_eq_zero_iff.1 hm
    refine wpList_append_arg _ hg s x t hop e i z 1 bytes h1 h2 h3 h4 h5 h6 (by omega) w2.heap.size 0 0 0 [] hs rfl (fun j u h => by simp at h) ad 0 c [] hx rfl (fun j u h => by simp at h) (fun u h => by cases h) (fun _ j hj => absurd hj (Nat.not_lt_zero j)) (by simp [maxLen]) (by omega) ?_ ?_
    · intro _
      exact hK w2.heap.size 0 0 _ (own_new0 w2 te B hB) hA (Nat.le_refl _)
    · intro h; omega
  refine wpList_append_owns _ B hg s x t hop e i z bytes h1 h2 h3 h4 h5 h6 (some ⟨w2.heap.size, 0, none⟩) 0 [] 0 rfl hs (.at _ _ (own_new0 w2 te B hB)) (Nat.le_trans hB hA.size) ad m c news hx hm hm0 (fun j u hj => ?_) h1c (by rw [Nat.zero_add]; exact b1) (by rw [Nat.zero_add]; exact b2) ?_
  · have hb : (ad.add j).block = ad.block := by obtain ⟨b, o, p⟩ := ad; cases p <;> first | rfl | (simp only [Addr.add]; split <;> rfl)
    rw [hA.cell (p := ad.add j) (by rw [hb]; exact had)]
    exact hc j u hj
  · intro g off cap' w' h hgr hor
    rw [Nat.zero_add]
    refine hK g off cap' w' h ⟨hgr.os.trans hA.os, hgr.tape.trans hA.tape, hgr.output.trans hA.output, Nat.le_trans hA.size hgr.size, fun k hk => ?_⟩ ?_
    · rw [hgr.block k (Nat.lt_of_lt_of_le hk hA.size) (fun e => by have e' : k = w2.heap.size := Option.some.inj e; omega)]
      exact hA.block k hk
    · rcases hor with h | h
      · have e' : w2.heap.size = g := Option.some.inj h
        omega
      · exact Nat.le_trans hA.size h
end Go.Proofs.YtbllanmhbfnagaaDoor
