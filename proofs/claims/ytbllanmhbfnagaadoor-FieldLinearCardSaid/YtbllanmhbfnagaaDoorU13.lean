/- Owned slices of bytes (of no program): from a string, back to a string, a part of one. -/
import Derived.Lib.ConvBytes
import Derived.Laws.IdiomStrings
import Derived.Test.YtbllanmhbfnagaaDoorU1
set_option linter.unusedVariables false
set_option linter.unusedSimpArgs false
namespace Go.Proofs.YtbllanmhbfnagaaDoor
open Go.RowKit

/-- Numbers as cells of bytes. -/
def bv (l : List Nat) : List Value := l.map (fun x : Nat => Value.int .u8 ((x : Nat) : Int))
theorem bv_length (l : List Nat) : (bv l).length = l.length := by simp [bv]
theorem bv_append (l m : List Nat) : bv (l ++ m) = bv l ++ bv m := by simp [bv]
theorem bv_at (l : List Nat) (j : Nat) (h : j < l.length) : (bv l)[j]? = some (.int .u8 (l.getD j 0 : Nat)) := by
  simp [bv, List.getD, h]
theorem bv_one (l : List Nat) : ∀ u ∈ bv l, u.oneCell' = true := by
  intro u hu
  obtain ⟨x, _, rfl⟩ := List.mem_map.1 hu
  rfl
/-- The bytes of a string, as numbers. -/
def bytesN (s : ByteArray) : List Nat := s.data.toList.map (·.toNat)
theorem bytesN_length (s : ByteArray) : (bytesN s).length = s.size := by simp [bytesN]
theorem bytesN_lt (s : ByteArray) (j : Nat) : (bytesN s).getD j 0 < 256 := by
  simp only [bytesN, List.getD, List.getElem?_map]
  cases h : s.data.toList[j]? with
  | none => simp
  | some b => simpa using b.toNat_lt
/-- Numbers as a string. -/
def strN (l : List Nat) : ByteArray := ⟨(l.map UInt8.ofNat).toArray⟩
theorem strN_bytesN (s : ByteArray) : strN (bytesN s) = s := by
  obtain ⟨⟨l⟩⟩ := s
  simp only [strN, bytesN, List.map_map]
  congr 2
  conv => rhs; rw [← List.map_id l]
  apply List.map_congr_left
  intro x _
  simp
theorem strN_size (l : List Nat) : (strN l).size = l.length := by
  unfold strN
  show (l.map UInt8.ofNat).toArray.size = _
  simp

theorem bytesWorld_under (w : World) (e : TypeId) (s : ByteArray) : Below w.heap.size w (Lib.bytesWorld w e s) :=
  ⟨rfl, rfl, rfl, by rw [Lib.bytesWorld_size]; omega, fun k hk => Lib.bytesWorld_at_old w e s k hk⟩
theorem ownAt_bytesWorld (w : World) (e : TypeId) (s : ByteArray) (hl : s.size ≤ maxLen) :
    OwnAt (Lib.bytesWorld w e s) w.heap.size w.heap.size 0 (grownCap w s.size 0 e) (bv (bytesN s)) := by
  have hge := grownCap_ge w s.size 0 e
  have hsz : (Lib.bytesCells w e s).size = grownCap w s.size 0 e := by
    simp only [Lib.bytesCells, Array.size_append, Array.size_map, Array.size_replicate]
    have : s.data.size = s.size := rfl
    omega
  have hcell : ∀ j, (Lib.bytesWorld w e s).cell? ⟨w.heap.size, 0 + j, none⟩ = (Lib.bytesCells w e s)[j]? := fun j => by
    simp [World.cell?, Lib.bytesWorld_at_new]
  refine ⟨Nat.le_refl _, by rw [Lib.bytesWorld_size]; omega, by rw [bv_length, bytesN_length]; exact hge, grownCap_le_maxLen w s.size 0 e hl, ?_, ?_, ?_⟩
  · intro j u hj
    have hj' : j < s.size := by
      have := (List.getElem?_eq_some_iff.1 hj).1
      rwa [bv_length, bytesN_length] at this
    rw [bv_at _ _ (by rw [bytesN_length]; exact hj')] at hj
    rw [Nat.zero_add, Lib.bytesWorld_cell w e s j hj', ← hj]
    simp [bytesN, List.getD]
    cases s.data[j]? <;> simp
  · intro j hj
    rw [hcell, Array.getElem?_eq_getElem (by omega)]; rfl
  · intro j hj
    simp [World.frozen?, Lib.bytesWorld_at_new]
    omega

/-- THE CONVERSION OF A STRING TO BYTES: the slice is the call's own. -/
theorem wpList_bytes_of {P : Program} (w : World) {ops : Array Oper} {rest : List Oper} {o : Oper} {a : Act} {Q : Exit → Act → World → Prop}
    (hg : o.guard = none) (src dst : TypeId) (x : Operand) (hop : o.op = .convert src dst x) (e : TypeId) (u : TypeDesc) (h1 : P.underlying src = some u) (h2 : P.underlying dst = some (.slice e)) (h3 : P.underlying e = some (.int .u8))
    (s : ByteArray) (hs : a.eval x = .string s) (hl : s.size ≤ maxLen)
    (hK : ∀ g cap w', OwnAt w' w.heap.size g 0 cap (bv (bytesN s)) → Below w.heap.size w w' → wpList P ops Q rest (a.put o.dst (.slice (some ⟨g, 0, none⟩) s.size cap)) w') :
    wpList P ops Q (o :: rest) a w := by
  refine wpList_plain hg fun K hK' => ?_
  have hr := Lib.run_convert_string_bytes (P := P) w src dst e s h1 h2 h3
  unfold Oper.wp
  simp [execOp, hop, hs, hr, Result.andThen]
  exact hK' _ _ (hK _ _ _ (ownAt_bytesWorld w e s hl) (bytesWorld_under w e s))

/-- THE CONVERSION OF BYTES TO A STRING. -/
theorem wpList_string_of {P : Program} (w : World) {ops : Array Oper} {rest : List Oper} {o : Oper} {a : Act} {Q : Exit → Act → World → Prop}
    (hg : o.guard = none) (src dst : TypeId) (x : Operand) (hop : o.op = .convert src dst x) (e : TypeId) (h1 : P.underlying src = some (.slice e)) (h2 : P.underlying e = some (.int .u8)) (h3 : P.underlying dst = some .string)
    (ad : Addr) (n cap : Nat) (l : List Nat) (hs : a.eval x = .slice (some ad) n cap) (hn : n = l.length) (hb : ∀ y ∈ l, y < 256) (hc : ∀ j u, (bv l)[j]? = some u → w.cell? (ad.add j) = some u)
    (hK : wpList P ops Q rest (a.put o.dst (.string (strN l))) w) :
    wpList P ops Q (o :: rest) a w := by
  subst hn
  refine wpList_plain hg fun K hK' => ?_
  have hr := run_convert_bytes_back (P := P) w src dst e ad cap (l.map UInt8.ofNat) h1 h2 h3 (fun j hj => by
    have hj' : j < l.length := by simpa using hj
    rw [hc j _ (bv_at l j hj')]
    have := hb l[j] (List.getElem_mem hj')
    simp [List.getD, hj', Nat.mod_eq_of_lt this])
  rw [List.length_map] at hr
  unfold Oper.wp
  simp [execOp, hop, hs, hr, Result.andThen]
  exact hK' _ _ hK

/-- THE REST OF A SLICE (elements of one cell): where nothing is left behind it the address need not move. -/
theorem wpList_slice_from {P : Program} (w : World) {ops : Array Oper} {rest : List Oper} {o : Oper} {a : Act} {Q : Exit → Act → World → Prop}
    (hg : o.guard = none) (t : TypeId) (x y : Operand) (hop : o.op = .slice t x (some y) none none) (e : TypeId) (h1 : P.underlying t = some (.slice e)) (h2 : (P.info? e).map (·.size) = some 1)
    (g off n cap : Nat) (k : IntKind) (l : Int) (L : Nat) (hL : l = L) (hs : a.eval x = .slice (some ⟨g, off, none⟩) n cap) (hy : a.eval y = .int k l) (hl : L ≤ n)
    (hK : ∀ off', (L < cap → off' = off + L) → wpList P ops Q rest (a.put o.dst (.slice (some ⟨g, off', none⟩) (n - L) (cap - L))) w) :
    wpList P ops Q (o :: rest) a w := by
  subst hL
  refine wpList_plain hg fun K hK' => ?_
  have he : P.elem t = e := by simp [Program.elem, h1]
  have hz : ∀ w, (Go.sizeOf e).run P w = .ok 1 w := fun w => by
    cases hi : P.info? e with
    | none => simp [hi] at h2
    | some i =>
      simp [hi] at h2
      simp [Go.sizeOf, typeInfo, hi, h2]
  have hr := run_slice_l (P := P) w t (some ⟨g, off, none⟩) n cap (by rw [he]; exact h1) k (L : Int) (by omega) (by omega)
  rw [he, hz] at hr
  simp only [Result.andThen, sliced, Int.toNat_natCast, Nat.mul_one] at hr
  have hv : ∃ off', (L < cap → off' = off + L) ∧ (Instr.slice t (.slice (some ⟨g, off, none⟩) n cap) (some (.int k L)) none none).run P w = .ok (.slice (some ⟨g, off', none⟩) (n - L) (cap - L)) w := by
    by_cases hc : cap = L
    · refine ⟨off, fun h => by omega, ?_⟩
      rw [hr, if_pos hc]
    · refine ⟨off + L, fun _ => rfl, ?_⟩
      rw [hr, if_neg hc]
      simp [Addr.add_lit]
  obtain ⟨off', ho, hv⟩ := hv
  unfold Oper.wp
  have ha := run_sliceAt_slice (P := P) (w := w) t (.slice (some ⟨g, off, none⟩) n cap) (some (.int k (L : Int))) none none (by rw [he]; exact h1)
  rw [hv] at ha
  simp [execOp, hop, hs, hy, ha, Result.andThen]
  exact hK' _ _ (hK off' ho)
end Go.Proofs.YtbllanmhbfnagaaDoor
