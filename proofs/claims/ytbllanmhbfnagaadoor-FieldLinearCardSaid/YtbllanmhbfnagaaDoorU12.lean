/- Tables of bools, lists of ints that the call made (of no law): what the walks of FieldCyclic and of the linear ones need. Matrices in memory (of no law): rows of ints, each in a block of its own. The matrix of the package in memory (of no law): what only it may turn. -/
import Derived.Test.YtbllanmhbfnagaaDoorU11
import Derived.Test.YtbllanmhbfnagaaDoorU1
import Derived.Test.YtbllanmhbfnagaaDoorU0
set_option linter.unusedVariables false
set_option linter.unusedSimpArgs false
namespace Go.Proofs.YtbllanmhbfnagaaDoor
open Go.RowKit
/-- Bools as the cells of an array. -/
def bcells (l : List Bool) : Array Value := (l.map Value.bool).toArray
theorem bcells_size (l : List Bool) : (bcells l).size = l.length := by simp [bcells]
theorem bcells_at (l : List Bool) (j : Nat) (h : j < l.length) : (bcells l)[j]? = some (.bool (l.getD j false)) := by simp [bcells, List.getD, h]
theorem bcells_set (l : List Bool) (j : Nat) (x : Bool) : (bcells l).setIfInBounds j (.bool x) = bcells (l.set j x) := by
  simp [bcells, List.map_set]
/-- Block g is an array of bools. -/
def HasB (w : World) (g : Nat) (l : List Bool) : Prop := w.heap[g]? = some (.cells (bcells l) 4 (0, 0))
theorem HasB.cell {w : World} {g : Nat} {l : List Bool} (h : HasB w g l) (j : Nat) (hj : j < l.length) : w.cell? ⟨g, j, none⟩ = some (.bool (l.getD j false)) := by
  rw [cell_of_row w g j _ _ _ h, bcells_at l j hj]
theorem HasB.free {w : World} {g : Nat} {l : List Bool} (h : HasB w g l) (j : Nat) : w.frozen? ⟨g, j, none⟩ = false := frozen_of_row w g j _ _ h
theorem HasB.set {w : World} {g : Nat} {l : List Bool} (h : HasB w g l) (j : Nat) (x : Bool) : HasB (w.setCell ⟨g, j, none⟩ (.bool x)) g (l.set j x) := by
  unfold HasB; rw [heap_setCell_same w g j _ _ _ h, bcells_set]
theorem HasB.lt {w : World} {g : Nat} {l : List Bool} (h : HasB w g l) : g < w.heap.size := (Array.getElem?_eq_some_iff.1 h).1
theorem HasB.below {w w' : World} {g B : Nat} {l : List Bool} (h : HasB w g l) (hb : Below B w w') (hg : g < B) : HasB w' g l := by
  unfold HasB; rw [hb.block g hg]; exact h
theorem HasB.step {w w' : World} {g : Nat} {l : List Bool} (h : HasB w g l) (hb : Below w.heap.size w w') : HasB w' g l := h.below hb h.lt
theorem HasB.other {w : World} {g : Nat} {l : List Bool} (h : HasB w g l) (a : Addr) (v : Value) (ha : a.block ≠ g) : HasB (w.setCell a v) g l := by
  unfold HasB; rw [heap_setCell_other w a g v (fun e => ha e.symm)]; exact h
theorem HasB.new (w : World) (l : List Bool) : HasB (w.alloc (.cells (bcells l) 4)) w.heap.size l := heap_alloc_new w _
theorem HasG.other {w : World} {A : Nat} {P Q G : Int} (h : HasG w A P Q G) (a : Addr) (v : Value) (ha : a.block ≠ A) : HasG (w.setCell a v) A P Q G := by
  unfold HasG; rw [heap_setCell_other w a A v (fun e => ha e.symm)]; exact h
theorem below_setCell {B : Nat} {a w : World} (h : Below B a w) {p : Addr} (hp : B ≤ p.block) (v : Value) : Below B a (w.setCell p v) :=
  h.trans ⟨rfl, rfl, rfl, by simp, fun k hk => heap_setCell_other w p k v (by omega)⟩
/-- Ints as cells. -/
def iv (l : List Int) : List Value := l.map (Value.int .i64)
theorem iv_length (l : List Int) : (iv l).length = l.length := by simp [iv]
theorem iv_append (l m : List Int) : iv (l ++ m) = iv l ++ iv m := by simp [iv]
theorem iv_at (l : List Int) (j : Nat) (h : j < l.length) : (iv l)[j]? = some (.int .i64 (l.getD j 0)) := by simp [iv, List.getD, h]
theorem iv_one (l : List Int) : ∀ u ∈ iv l, u.oneCell' = true := by
  intro u hu
  obtain ⟨x, _, rfl⟩ := List.mem_map.1 hu
  rfl
theorem info_int : (Tryd.prog.info? 3).map (fun i => (i.zero, i.size, i.bytes)) = some (some (.int .i64 0), 1, 8) := by kernel_rfl
/-- An append of ints that were just built. -/
theorem app_ints {ops : Array Oper} {rest : List Oper} {o : Oper} {a : Act} {Q : Exit → Act → World → Prop} (w1 : World) (B : Nat)
    (hg : o.guard = none) (s x : Operand) (hop : o.op = Op.call { callee := Callee.builtin Builtin.append, args := #[s, x], argTypes := #[42, 42] })
    (ao : Option Addr) (cap n : Nat) (l : List Int) (hn : n = l.length) (hs : a.eval s = .slice ao n cap) (hO : OwnS w1 B cap (iv l) ao) (hB : B ≤ w1.heap.size)
    (m c : Nat) (cs : Array Value) (te : TypeId) (news : List Int) (hx : a.eval x = .slice (some ⟨w1.heap.size, 0, none⟩) m c) (hcs : cs.toList = iv news) (hm : news.length = m) (hm0 : 0 < m)
    (b1 : n + m ≤ 1000000000)
    (hK : ∀ g off cap' w', OwnAt w' B g off cap' (iv (l ++ news)) → Below B w1 w' → wpList Tryd.prog ops Q rest (a.put o.dst (.slice (some ⟨g, off, none⟩) (n + m) cap')) w') :
    wpList Tryd.prog ops Q (o :: rest) a (w1.alloc (.cells cs te)) := by
  obtain ⟨i0, hi, hz0, hz1, hz2⟩ := info_parts info_int
  refine wpList_append_new w1 B hg s x 42 hop 3 i0 (.int .i64 0) 8 Tryd.underlying42 hi hz0 hz1 hz2 rfl ao cap (iv l) n (by rw [iv_length]; exact hn) hs hO hB m c cs te hx
    (by rw [← Array.length_toList, hcs, iv_length]; exact hm) hm0 (by rw [hcs]; exact iv_one _) (by simp only [maxLen]; omega) (by omega) ?_
  intro g off cap' w' h _ hb _
  refine hK g off cap' w' ?_ hb
  rw [iv_append, ← hcs]
  exact h
end Go.Proofs.YtbllanmhbfnagaaDoor
namespace Go.Proofs.YtbllanmhbfnagaaDoor
open Go.RowKit
/-- The header of a row of C ints. -/
def hv (C : Nat) (h : Nat × Nat × Nat) : Value := .slice (some ⟨h.1, h.2.1, none⟩) C h.2.2
theorem hv_one (C : Nat) (hs : List (Nat × Nat × Nat)) : ∀ u ∈ hs.map (hv C), u.oneCell' = true := by
  intro u hu
  obtain ⟨x, _, rfl⟩ := List.mem_map.1 hu
  rfl
/-- Rows of C ints: the headers in a block that the call owns, each row in a block of its own. -/
structure RowsW (w : World) (B R ro cap C : Nat) (hs : List (Nat × Nat × Nat)) (M : List (List Int)) : Prop where
  top : OwnAt w B R ro cap (hs.map (hv C))
  len : hs.length = M.length
  each : ∀ i h, hs[i]? = some h → OwnAt w B h.1 h.2.1 h.2.2 (iv (M.getD i []))
  wide : ∀ i, i < M.length → (M.getD i []).length = C
  dist : ∀ (i j : Nat) (x y : Nat × Nat × Nat), hs[i]? = some x → hs[j]? = some y → x.1 = y.1 → i = j
  apart : ∀ h ∈ hs, h.1 ≠ R
theorem own_block {w w' : World} {B g off cap : Nat} {xs : List Value} (h : OwnAt w B g off cap xs) (hb : w'.heap[g]? = w.heap[g]?) (hs : w.heap.size ≤ w'.heap.size) : OwnAt w' B g off cap xs := h.of_block hb hs
theorem RowsW.keep {w w' : World} {B R ro cap C : Nat} {hs : List (Nat × Nat × Nat)} {M : List (List Int)} (h : RowsW w B R ro cap C hs M) (hb : ∀ g, B ≤ g → g < w.heap.size → w'.heap[g]? = w.heap[g]?) (hz : w.heap.size ≤ w'.heap.size) : RowsW w' B R ro cap C hs M :=
  ⟨h.top.of_block (hb R h.top.own h.top.lt) hz, h.len, fun i x hx => (h.each i x hx).of_block (hb x.1 (h.each i x hx).own (h.each i x hx).lt) hz, h.wide, h.dist, h.apart⟩
theorem RowsW.step {w w' : World} {B R ro cap C : Nat} {hs : List (Nat × Nat × Nat)} {M : List (List Int)} (h : RowsW w B R ro cap C hs M) (hb : Below w.heap.size w w') : RowsW w' B R ro cap C hs M :=
  h.keep (fun g _ hg => hb.block g hg) hb.size
/-- Row i: its header and its cells. -/
theorem RowsW.row {w : World} {B R ro cap C : Nat} {hs : List (Nat × Nat × Nat)} {M : List (List Int)} (h : RowsW w B R ro cap C hs M) (i : Nat) (hi : i < M.length) :
    ∃ x, hs[i]? = some x ∧ w.cell? ⟨R, ro + i, none⟩ = some (.slice (some ⟨x.1, x.2.1, none⟩) C x.2.2) ∧ OwnAt w B x.1 x.2.1 x.2.2 (iv (M.getD i [])) ∧ x.1 ≠ R ∧ (M.getD i []).length = C := by
  have hl : i < hs.length := by rw [h.len]; exact hi
  have hx : hs[i]? = some hs[i] := List.getElem?_eq_getElem hl
  refine ⟨hs[i], hx, ?_, h.each i _ hx, h.apart _ (List.getElem_mem hl), h.wide i hi⟩
  have := h.top.cells i (hv C hs[i]) (by rw [List.getElem?_map, hx]; rfl)
  exact this
theorem OwnAt.cell_i {w : World} {B g off cap : Nat} {l : List Int} (h : OwnAt w B g off cap (iv l)) (j : Nat) (hj : j < l.length) : w.cell? ⟨g, off + j, none⟩ = some (.int .i64 (l.getD j 0)) := h.cells j _ (iv_at l j hj)
theorem iv_set (l : List Int) (j : Nat) (x : Int) : (iv l).set j (.int .i64 x) = iv (l.set j x) := by simp [iv, List.map_set]
theorem getD_set {α : Type} (l : List α) (i k : Nat) (x d : α) (hi : i < l.length) : (l.set i x).getD k d = if i = k then x else l.getD k d := by
  simp only [List.getD, List.getElem?_set]
  by_cases h : i = k
  · rw [if_pos h, if_pos h, if_pos (by omega)]; rfl
  · rw [if_neg h, if_neg h]
/-- A STORE into row i. -/
theorem RowsW.setv {w : World} {B R ro cap C : Nat} {hs : List (Nat × Nat × Nat)} {M : List (List Int)} (h : RowsW w B R ro cap C hs M) (i j : Nat) (v : Int) (x : Nat × Nat × Nat) (hx : hs[i]? = some x) (hj : j < C) :
    RowsW (w.setCell ⟨x.1, x.2.1 + j, none⟩ (.int .i64 v)) B R ro cap C hs (M.set i ((M.getD i []).set j v)) := by
  have hil : i < M.length := by rw [← h.len]; exact (List.getElem?_eq_some_iff.1 hx).1
  have ho : ∀ k, k ≠ x.1 → (w.setCell ⟨x.1, x.2.1 + j, none⟩ (.int .i64 v)).heap[k]? = w.heap[k]? := fun k hk => heap_setCell_other w _ k _ hk
  have hz : w.heap.size ≤ (w.setCell ⟨x.1, x.2.1 + j, none⟩ (.int .i64 v)).heap.size := by rw [World.size_setCell]; exact Nat.le_refl _
  have hxm : x ∈ hs := List.mem_of_getElem? hx
  refine ⟨h.top.of_block (ho R (fun e => h.apart x hxm e.symm)) hz, by rw [List.length_set]; exact h.len, ?_, ?_, h.dist, h.apart⟩
  · intro k y hy
    rw [getD_set _ _ _ _ _ hil]
    by_cases e : i = k
    · subst e
      obtain rfl : x = y := Option.some.inj (hx.symm.trans hy)
      rw [if_pos rfl, ← iv_set]
      exact (h.each i x hx).set j _ (by rw [iv_length, h.wide i hil]; exact hj)
    · rw [if_neg e]
      exact (h.each k y hy).of_block (ho y.1 (fun e2 => e (h.dist i k x y hx hy e2.symm))) hz
  · intro k hk
    rw [List.length_set] at hk
    rw [getD_set _ _ _ _ _ hil]
    split
    · rename_i e; rw [List.length_set]; exact h.wide i hil
    · exact h.wide k hk
/-- The place that comes to i in an exchange of a and b. -/
def swp (a b i : Nat) : Nat := if i = b then a else if i = a then b else i
theorem swp_b (a b : Nat) : swp a b b = a := if_pos rfl
theorem swp_a {a b : Nat} (h : b ≠ a) : swp a b a = b := by unfold swp; rw [if_neg (fun e => h e.symm), if_pos rfl]
theorem swp_o {a b i : Nat} (h1 : i ≠ b) (h2 : i ≠ a) : swp a b i = i := by unfold swp; rw [if_neg h1, if_neg h2]
theorem swp_inj {a b i j : Nat} (h : swp a b i = swp a b j) : i = j := by
  unfold swp at h
  split at h <;> split at h <;> (try split at h) <;> (try split at h) <;> omega
theorem get_swap {α : Type} (l : List α) {a b : Nat} {x y : α} (ha : l[a]? = some x) (hb : l[b]? = some y) (i : Nat) : ((l.set a y).set b x)[i]? = l[swp a b i]? := by
  have hal := (List.getElem?_eq_some_iff.1 ha).1
  have hbl := (List.getElem?_eq_some_iff.1 hb).1
  by_cases e1 : i = b
  · subst e1
    rw [swp_b, List.getElem?_set_self (by rw [List.length_set]; exact hbl), ha]
  · rw [List.getElem?_set_ne (fun e => e1 e.symm)]
    by_cases e2 : i = a
    · subst e2
      rw [swp_a (fun e => e1 e.symm), List.getElem?_set_self hal, hb]
    · rw [List.getElem?_set_ne (fun e => e2 e.symm), swp_o e1 e2]
theorem getD_some {α : Type} {l : List α} {i : Nat} {x d : α} (h : l[i]? = some x) : l.getD i d = x := by rw [List.getD, h]; rfl
theorem some_getD {α : Type} {l : List α} {i : Nat} (d : α) (h : i < l.length) : l[i]? = some (l.getD i d) := by rw [List.getD, List.getElem?_eq_getElem h]; rfl
/-- AN EXCHANGE of two headers. -/
theorem RowsW.swap {w : World} {B R ro cap C : Nat} {hs : List (Nat × Nat × Nat)} {M : List (List Int)} (h : RowsW w B R ro cap C hs M) (a b : Nat) (x y : Nat × Nat × Nat) (hx : hs[a]? = some x) (hy : hs[b]? = some y) :
    RowsW ((w.setCell ⟨R, ro + a, none⟩ (hv C y)).setCell ⟨R, ro + b, none⟩ (hv C x)) B R ro cap C ((hs.set a y).set b x) ((M.set a (M.getD b [])).set b (M.getD a [])) := by
  have hal : a < hs.length := (List.getElem?_eq_some_iff.1 hx).1
  have hbl : b < hs.length := (List.getElem?_eq_some_iff.1 hy).1
  have hL := h.len
  have ho : ∀ k, k ≠ R → ((w.setCell ⟨R, ro + a, none⟩ (hv C y)).setCell ⟨R, ro + b, none⟩ (hv C x)).heap[k]? = w.heap[k]? := fun k hk => by
    rw [heap_setCell_other _ _ k _ hk, heap_setCell_other _ _ k _ hk]
  have hz : w.heap.size ≤ ((w.setCell ⟨R, ro + a, none⟩ (hv C y)).setCell ⟨R, ro + b, none⟩ (hv C x)).heap.size := by rw [World.size_setCell, World.size_setCell]; exact Nat.le_refl _
  have hget : ∀ i, ((M.set a (M.getD b [])).set b (M.getD a [])).getD i [] = M.getD (swp a b i) [] := fun i => by
    have e := get_swap M (some_getD (i := a) [] (by omega)) (some_getD (i := b) [] (by omega)) i
    show (((M.set a (M.getD b [])).set b (M.getD a []))[i]?).getD [] = (M[swp a b i]?).getD []
    rw [e]
  have hhs : ∀ i z, ((hs.set a y).set b x)[i]? = some z → hs[swp a b i]? = some z := fun i z hz => by
    rw [get_swap hs hx hy] at hz; exact hz
  have h1 := h.top.set a (hv C y) (by rw [List.length_map]; exact hal)
  have h2 := h1.set b (hv C x) (by rw [List.length_set, List.length_map]; exact hbl)
  rw [← List.map_set, ← List.map_set] at h2
  refine ⟨h2, by simp [hL], ?_, ?_, ?_, ?_⟩
  · intro i z hz'
    rw [hget i]
    have hk := hhs i z hz'
    exact (h.each _ z hk).of_block (ho z.1 (h.apart z (List.mem_of_getElem? hk))) hz
  · intro i hi
    rw [hget i]
    rw [List.length_set, List.length_set] at hi
    refine h.wide _ ?_
    unfold swp
    split
    · omega
    · split <;> omega
  · intro i j u v hu hv he
    exact swp_inj (h.dist _ _ u v (hhs i u hu) (hhs j v hv) he)
  · intro z hz'
    obtain ⟨i, hi⟩ := List.mem_iff_getElem?.1 hz'
    exact h.apart z (List.mem_of_getElem? (hhs i z hi))
end Go.Proofs.YtbllanmhbfnagaaDoor
namespace Go.Proofs.YtbllanmhbfnagaaDoor
open Go.RowKit
/-- Of what was there only blocks that p holds of may have turned. -/
structure Only (w w' : World) (p : Nat → Prop) : Prop where
  os : w'.os = w.os
  tape : w'.tape = w.tape
  output : w'.output = w.output
  size : w.heap.size ≤ w'.heap.size
  block : ∀ g, g < w.heap.size → ¬ p g → w'.heap[g]? = w.heap[g]?
theorem Only.refl (w : World) (p : Nat → Prop) : Only w w p := ⟨rfl, rfl, rfl, Nat.le_refl _, fun _ _ _ => rfl⟩
theorem Only.trans {w w' w'' : World} {p : Nat → Prop} (h : Only w w' p) (h' : Only w' w'' p) : Only w w'' p :=
  ⟨h'.os.trans h.os, h'.tape.trans h.tape, h'.output.trans h.output, Nat.le_trans h.size h'.size, fun g hg hp => (h'.block g (Nat.lt_of_lt_of_le hg h.size) hp).trans (h.block g hg hp)⟩
theorem Only.of_below {w w' : World} {p : Nat → Prop} (h : Below w.heap.size w w') : Only w w' p := ⟨h.os, h.tape, h.output, h.size, fun g hg _ => h.block g hg⟩
theorem Only.step {w w' w'' : World} {p : Nat → Prop} (h : Only w w' p) (h' : Below w'.heap.size w' w'') : Only w w'' p := h.trans (.of_below h')
theorem Only.setCell {w w' : World} {p : Nat → Prop} (h : Only w w' p) {a : Addr} (v : Value) (ha : p a.block) : Only w (w'.setCell a v) p :=
  h.trans ⟨rfl, rfl, rfl, by rw [World.size_setCell]; exact Nat.le_refl _, fun g _ hp => heap_setCell_other w' a g v (fun e => hp (e ▸ ha))⟩
theorem Only.mono {w w' : World} {p p' : Nat → Prop} (h : Only w w' p) (hp : ∀ g, g < w.heap.size → p g → p' g) : Only w w' p' :=
  ⟨h.os, h.tape, h.output, h.size, fun g hg hn => h.block g hg (fun hh => hn (hp g hg hh))⟩
theorem Only.below {w w' : World} {p : Nat → Prop} {B : Nat} (h : Only w w' p) (hB : B ≤ w.heap.size) (hp : ∀ g, p g → B ≤ g) : Below B w w' :=
  ⟨h.os, h.tape, h.output, h.size, fun g hg => h.block g (by omega) (fun hh => by have := hp g hh; omega)⟩
/-- Of an older world: what has come since may turn as it likes. -/
theorem Only.later {w0 w w' : World} {p : Nat → Prop} (h0 : Below w0.heap.size w0 w) (h : Only w w' p) (hp : ∀ g, p g → w0.heap.size ≤ g) : Below w0.heap.size w0 w' :=
  h0.trans (h.below h0.size hp)
/-- The matrix at A: its modulus, its rows, the number of its columns. -/
structure MatW (w : World) (B A R ro cap C : Nat) (q cols : Int) (hs : List (Nat × Nat × Nat)) (M : List (List Int)) : Prop where
  rows : RowsW w B R ro cap C hs M
  cq : w.cell? ⟨A, 0, none⟩ = some (.int .i64 q)
  cr : w.cell? ⟨A, 1, none⟩ = some (.slice (some ⟨R, ro, none⟩) M.length cap)
  cc : w.cell? ⟨A, 2, none⟩ = some (.int .i64 cols)
  own : B ≤ A
  lt : A < w.heap.size
  ar : A ≠ R
  ab : ∀ h ∈ hs, h.1 ≠ A
/-- The blocks of the rows of a matrix. -/
def rowB (hs : List (Nat × Nat × Nat)) (g : Nat) : Prop := ∃ h ∈ hs, h.1 = g
theorem MatW.step {w w' : World} {B A R ro cap C : Nat} {q cols : Int} {hs : List (Nat × Nat × Nat)} {M : List (List Int)} (h : MatW w B A R ro cap C q cols hs M) (hb : Below w.heap.size w w') : MatW w' B A R ro cap C q cols hs M :=
  ⟨h.rows.step hb, (hb.cell h.lt).trans h.cq, (hb.cell h.lt).trans h.cr, (hb.cell h.lt).trans h.cc, h.own, Nat.lt_of_lt_of_le h.lt hb.size, h.ar, h.ab⟩
theorem MatW.setv {w : World} {B A R ro cap C : Nat} {q cols : Int} {hs : List (Nat × Nat × Nat)} {M : List (List Int)} (h : MatW w B A R ro cap C q cols hs M) (i j : Nat) (v : Int) (x : Nat × Nat × Nat) (hx : hs[i]? = some x) (hj : j < C) :
    MatW (w.setCell ⟨x.1, x.2.1 + j, none⟩ (.int .i64 v)) B A R ro cap C q cols hs (M.set i ((M.getD i []).set j v)) := by
  have hA : ∀ k, (w.setCell ⟨x.1, x.2.1 + j, none⟩ (.int .i64 v)).cell? ⟨A, k, none⟩ = w.cell? ⟨A, k, none⟩ := fun k =>
    World.cell?_of_block (w := w) (a := ⟨A, k, none⟩) (heap_setCell_other w _ A _ (fun e => h.ab x (List.mem_of_getElem? hx) e.symm))
  exact ⟨h.rows.setv i j v x hx hj, (hA 0).trans h.cq, by rw [List.length_set]; exact (hA 1).trans h.cr, (hA 2).trans h.cc, h.own, by rw [World.size_setCell]; exact h.lt, h.ar, h.ab⟩
theorem MatW.swap {w : World} {B A R ro cap C : Nat} {q cols : Int} {hs : List (Nat × Nat × Nat)} {M : List (List Int)} (h : MatW w B A R ro cap C q cols hs M) (a b : Nat) (x y : Nat × Nat × Nat) (hx : hs[a]? = some x) (hy : hs[b]? = some y) :
    MatW ((w.setCell ⟨R, ro + a, none⟩ (hv C y)).setCell ⟨R, ro + b, none⟩ (hv C x)) B A R ro cap C q cols ((hs.set a y).set b x) ((M.set a (M.getD b [])).set b (M.getD a [])) := by
  have hA : ∀ k, ((w.setCell ⟨R, ro + a, none⟩ (hv C y)).setCell ⟨R, ro + b, none⟩ (hv C x)).cell? ⟨A, k, none⟩ = w.cell? ⟨A, k, none⟩ := fun k =>
    World.cell?_of_block (w := w) (a := ⟨A, k, none⟩) ((heap_setCell_other _ _ A _ h.ar).trans (heap_setCell_other w _ A _ h.ar))
  refine ⟨h.rows.swap a b x y hx hy, (hA 0).trans h.cq, by rw [List.length_set, List.length_set]; exact (hA 1).trans h.cr, (hA 2).trans h.cc, h.own, by rw [World.size_setCell, World.size_setCell]; exact h.lt, h.ar, ?_⟩
  intro z hz
  obtain ⟨i, hi⟩ := List.mem_iff_getElem?.1 hz
  rw [get_swap hs hx hy] at hi
  exact h.ab z (List.mem_of_getElem? hi)
/-- Row i of the matrix, told to the walk. -/
theorem MatW.row {w : World} {B A R ro cap C : Nat} {q cols : Int} {hs : List (Nat × Nat × Nat)} {M : List (List Int)} (h : MatW w B A R ro cap C q cols hs M) (i : Nat) (hi : i < M.length) :
    ∃ b o c, hs[i]? = some (b, o, c) ∧ w.cell? ⟨R, ro + i, none⟩ = some (.slice (some ⟨b, o, none⟩) C c) ∧ OwnAt w B b o c (iv (M.getD i [])) ∧ (M.getD i []).length = C := by
  obtain ⟨⟨b, o, c⟩, h1, h2, h3, _, h5⟩ := h.rows.row i hi
  exact ⟨b, o, c, h1, h2, h3, h5⟩
theorem MatW.cell {w : World} {B A R ro cap C : Nat} {q cols : Int} {hs : List (Nat × Nat × Nat)} {M : List (List Int)} (h : MatW w B A R ro cap C q cols hs M) {i b o c : Nat} (hx : hs[i]? = some (b, o, c)) (j : Nat) (hj : j < C) :
    w.cell? ⟨b, o + j, none⟩ = some (.int .i64 ((M.getD i []).getD j 0)) := by
  have hi : i < M.length := by rw [← h.rows.len]; exact (List.getElem?_eq_some_iff.1 hx).1
  exact (h.rows.each i _ hx).cell_i j (by rw [h.rows.wide i hi]; exact hj)
theorem MatW.head {w : World} {B A R ro cap C : Nat} {q cols : Int} {hs : List (Nat × Nat × Nat)} {M : List (List Int)} (h : MatW w B A R ro cap C q cols hs M) {i b o c : Nat} (hx : hs[i]? = some (b, o, c)) :
    w.cell? ⟨R, ro + i, none⟩ = some (.slice (some ⟨b, o, none⟩) C c) := by
  have := h.rows.top.cells i (hv C (b, o, c)) (by rw [List.getElem?_map, hx]; rfl)
  exact this
theorem MatW.free {w : World} {B A R ro cap C : Nat} {q cols : Int} {hs : List (Nat × Nat × Nat)} {M : List (List Int)} (h : MatW w B A R ro cap C q cols hs M) {i b o c : Nat} (hx : hs[i]? = some (b, o, c)) (j : Nat) (hj : j < C) :
    w.frozen? ⟨b, o + j, none⟩ = false := by
  have hi : i < M.length := by rw [← h.rows.len]; exact (List.getElem?_eq_some_iff.1 hx).1
  have h1 : (iv (M.getD i [])).length ≤ c := (h.rows.each i _ hx).le
  rw [iv_length, h.rows.wide i hi] at h1
  exact (h.rows.each i _ hx).warm j (Nat.lt_of_lt_of_le hj h1)
theorem MatW.freeR {w : World} {B A R ro cap C : Nat} {q cols : Int} {hs : List (Nat × Nat × Nat)} {M : List (List Int)} (h : MatW w B A R ro cap C q cols hs M) (i : Nat) (hi : i < M.length) :
    w.frozen? ⟨R, ro + i, none⟩ = false := by
  have h1 := h.rows.top.le
  rw [List.length_map, h.rows.len] at h1
  exact h.rows.top.warm i (by omega)
theorem MatW.owns {w : World} {B A R ro cap C : Nat} {q cols : Int} {hs : List (Nat × Nat × Nat)} {M : List (List Int)} (h : MatW w B A R ro cap C q cols hs M) (g : Nat) (hg : rowB hs g) : B ≤ g := by
  obtain ⟨x, hx, rfl⟩ := hg
  obtain ⟨i, hi⟩ := List.mem_iff_getElem?.1 hx
  exact (h.rows.each i x hi).own
/-- Bounds of what stands in a matrix. -/
def Bd (M : List (List Int)) : Prop := ∀ i j, -9223372036854775808 ≤ (M.getD i []).getD j 0 ∧ (M.getD i []).getD j 0 ≤ 9223372036854775807
end Go.Proofs.YtbllanmhbfnagaaDoor
