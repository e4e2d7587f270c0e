/- Hexadecimal digits (walk). -/
import Derived.Test.YtbllanmhbfnagaaDoorSE
set_option linter.unusedVariables false
set_option linter.unusedSimpArgs false
namespace Go.Proofs.YtbllanmhbfnagaaDoor
open Go.RowKit
def digS : ByteArray := { data := #[48, 49, 50, 51, 52, 53, 54, 55, 56, 57, 97, 98, 99, 100, 101, 102] }
theorem dig_slice (x : Nat) (hx : x < 16) (w : World) :
    (Instr.slice 9 (.string { data := #[48, 49, 50, 51, 52, 53, 54, 55, 56, 57, 97, 98, 99, 100, 101, 102] }) (some (.int .i64 (x : Int))) (some (.int .i64 ((x : Int) + 1))) none).run Tryd.prog w = .ok (.string (strN [hexD x])) w := by
  have h : x = 0 ∨ x = 1 ∨ x = 2 ∨ x = 3 ∨ x = 4 ∨ x = 5 ∨ x = 6 ∨ x = 7 ∨ x = 8 ∨ x = 9 ∨ x = 10 ∨ x = 11 ∨ x = 12 ∨ x = 13 ∨ x = 14 ∨ x = 15 := by omega
  rcases h with rfl | rfl | rfl | rfl | rfl | rfl | rfl | rfl | rfl | rfl | rfl | rfl | rfl | rfl | rfl | rfl <;> (show Sem.run _ _ _ = _; kernel_rfl)
theorem strN_append (a b : List Nat) : strN a ++ strN b = strN (a ++ b) := by
  apply ByteArray.ext
  simp [strN]
theorem str_at (l : List Nat) (i : Nat) (hi : i < l.length) (hb : ∀ y ∈ l, y < 256) (w : World) :
    (Instr.index 9 (.string (strN l)) (.int .i64 (i : Int))).run Tryd.prog w = .ok (.int .u8 ((l.getD i 0 : Nat) : Int)) w := by
  rw [run_index_string w 9 (strN l) .i64 i Tryd.underlying9, dif_pos ⟨by omega, by rw [strN_size]; omega⟩]
  have hm := hb l[i] (List.getElem_mem hi)
  simp [strN, List.getD, hi, ByteArray.getElem_eq_getElem_data, Nat.mod_eq_of_lt hm]
theorem hexL_step (l : List Nat) (i : Nat) (h : i < l.length) : hexL (l.take i) ++ [hexD (l.getD i 0 / 16)] ++ [hexD (l.getD i 0 % 16)] = hexL (l.take (i + 1)) := by
  unfold hexL
  rw [List.take_add_one, List.flatMap_append, List.getElem?_eq_getElem h, List.getD, List.getElem?_eq_getElem h]
  simp
theorem hexL_len (l : List Nat) : (hexL l).length = 2 * l.length := by
  induction l with
  | nil => rfl
  | cons x l ih => simp only [hexL, List.flatMap_cons, List.length_append, List.length_cons, List.length_nil] at *; omega
set_option maxHeartbeats 2000000 in
set_option maxRecDepth 100000 in
theorem hex_any (l : List Nat) (w : World) (hl : l.length ≤ 1000000) (hb : ∀ y ∈ l, y < 256) :
    Calls Tryd.prog 75 #[.string (strN l)] w fun e w' => e = .returned (.string (strN (hexL l))) ∧ Below w.heap.size w w' := by
  have HB := mkHid hb
  have SZ := mkHid (strN_size l)
  have HX : Hid (∀ i : Nat, i < l.length → ∀ w, (Instr.index 9 (.string (strN l)) (.int .i64 (i : Int))).run Tryd.prog w = .ok (.int .u8 ((l.getD i 0 : Nat) : Int)) w) := mkHid (fun i hi w => str_at l i hi hb w)
  have HE : Hid (strN (hexL l) = strN (hexL (l.take l.length))) := mkHid (by rw [List.take_length])
  clear hb
  generalize strN l = t at *
  go_enter Tryd.func75, Tryd.ntmps75
  go_wp2_with fail
  go_loopw [4, 5] (fun c d wr => ∃ (i : Nat) (o : ByteArray), c = .string o ∧ d = .int .i64 i ∧ i ≤ l.length ∧ Hid (o = strN (hexL (l.take i))) ∧ Hid (Below w.heap.size w wr)) (fun _ d _ => (l.length - intOf d).toNat)
  case atStart => exact ⟨0, _, rfl, rfl, by omega, mkHid rfl, mkHid (Below.refl _ _)⟩
  case round =>
    obtain ⟨i, o, rfl, rfl, hi, ho, hw⟩ := hrel
    have hsz := SZ.out
    by_cases hlt : i < l.length
    · have hx := HX.out i hlt
      have hxl : l.getD i 0 < 256 := by rw [List.getD, List.getElem?_eq_getElem hlt]; exact HB.out _ (List.getElem_mem _)
      have hst := mkHid (hexL_step l i hlt)
      have hol : Hid (o.size ≤ 2000000) := mkHid (by rw [ho.out, strN_size, hexL_len, List.length_take]; omega)
      generalize l.getD i 0 = x at *
      have d1 := dig_slice (x / 16) (by omega)
      have d2 := dig_slice (x % 16) (by omega)
      rw [show ((x / 16 : Nat) : Int) = (x : Int) / 16 by omega] at d1
      rw [show ((x % 16 : Nat) : Int) = (x : Int) % 16 by omega] at d2
      have s1 := mkHid (strN_size [hexD (x / 16)])
      have s2 := mkHid (strN_size [hexD (x % 16)])
      have HO : Hid (o ++ strN [hexD (x / 16)] ++ strN [hexD (x % 16)] = strN (hexL (l.take (i + 1)))) := mkHid (by rw [ho.out, strN_append, strN_append, hst.out])
      generalize strN [hexD (x / 16)] = a1 at *
      generalize strN [hexD (x % 16)] = a2 at *
      have c1 : ∀ W : World, (Op.stringOp .add o a1).run Tryd.prog W = .ok (.string (o ++ a1)) W := fun W => run_string_add_sum W o a1 (by rw [s1.out]; have := hol.out; simp only [List.length_cons, List.length_nil]; omega)
      have c2 : ∀ W : World, (Op.stringOp .add (o ++ a1) a2).run Tryd.prog W = .ok (.string (o ++ a1 ++ a2)) W := fun W => run_string_add_sum W (o ++ a1) a2 (by rw [ByteArray.size_append, s1.out, s2.out]; have := hol.out; simp only [List.length_cons, List.length_nil]; omega)
      have ii : (i : Int) < l.length := by omega
      go_wp2_with fail
      go_quiet (fail)
      go_wp2
      go_roundw
      case rel => exact ⟨i + 1, _, rfl, by go_num, by omega, HO, mkHid (below_drewN hw.out nq)⟩
      case measure => simp only [intOf]; omega
    · obtain rfl : i = l.length := by omega
      go_wp2
      go_ret
      exact ⟨by rw [HE.out, ← ho.out]; rfl, hw.out⟩
end Go.Proofs.YtbllanmhbfnagaaDoor
