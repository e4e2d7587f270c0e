/- The small functions on numbers modulo n: what each returns (walks). -/
import Derived.Test.YtbllanmhbfnagaaDoorProg
import Derived.WalkKit
import Derived.WalkSpells
import Derived.WalkLawsBesides
import Derived.Test.YtbllanmhbfnagaaDoorU0
set_option linter.unusedVariables false
set_option linter.unusedSimpArgs false
namespace Go.Proofs.YtbllanmhbfnagaaDoor
open Go.RowKit

theorem mkHid {p : Prop} (h : p) : Hid p := h
theorem ret_int {k : IntKind} {a b : Int} (h : a = b) : Ending.returned (.int k a) = .returned (.int k b) := by rw [h]
theorem ret_bool {a b : Bool} (h : a = b) : Ending.returned (.bool a) = .returned (.bool b) := by rw [h]

set_option maxHeartbeats 400000 in
theorem valid_any (n : Int) (w : World) :
    Calls Tryd.prog 76 #[.int .i64 n] w fun e w' => e = .returned (.bool (modB n)) ∧ w = w' := by
  go_enter Tryd.func76, Tryd.ntmps76
  go_wp2
  all_goals
    go_ret
    exact ⟨ret_bool (by unfold modB; simp; try omega), rfl⟩
theorem valid_yes (n : Int) (w : World) (h : modB n = true) :
    Calls Tryd.prog 76 #[.int .i64 n] w fun e w' => e = .returned (.bool true) ∧ w = w' := h ▸ valid_any n w
theorem valid_no (n : Int) (w : World) (h : modB n = false) :
    Calls Tryd.prog 76 #[.int .i64 n] w fun e w' => e = .returned (.bool false) ∧ w = w' := h ▸ valid_any n w
theorem rvalid_any (n : Int) (w : World) :
    Calls Tryd.prog 78 #[.int .i64 n] w fun e w' => e = .returned (.bool (modB n)) ∧ w = w' := by
  go_enter Tryd.func78, Tryd.ntmps78
  go_wp2
  all_goals
    go_ret
    exact ⟨ret_bool (by unfold modB; simp; try omega), rfl⟩
theorem rvalid_yes (n : Int) (w : World) (h : modB n = true) :
    Calls Tryd.prog 78 #[.int .i64 n] w fun e w' => e = .returned (.bool true) ∧ w = w' := h ▸ rvalid_any n w
theorem rvalid_no (n : Int) (w : World) (h : modB n = false) :
    Calls Tryd.prog 78 #[.int .i64 n] w fun e w' => e = .returned (.bool false) ∧ w = w' := h ▸ rvalid_any n w

set_option maxHeartbeats 400000 in
theorem residue_any (n a : Int) (w : World) (h1 : 1 ≤ n) (h2 : n < 2305843009213693952) :
    Calls Tryd.prog 77 #[.int .i64 n, .int .i64 a] w fun e w' => e = .returned (.int .u64 (a % n)) ∧ w = w' := by
  obtain ⟨b1, b2⟩ := tmod_bd a n h1
  go_enter Tryd.func77, Tryd.ntmps77
  go_wp2
  all_goals go_ret
  · exact ⟨ret_int (by rw [emod_of_tmod_neg _ _ h1 (by omega)]), rfl⟩
  · exact ⟨ret_int (by rw [emod_of_tmod_nn _ _ h1 (by omega)]), rfl⟩
set_option maxHeartbeats 400000 in
theorem rresidue_any (n a : Int) (w : World) (h1 : 1 ≤ n) (h2 : n < 2305843009213693952) :
    Calls Tryd.prog 79 #[.int .i64 n, .int .i64 a] w fun e w' => e = .returned (.int .i64 (a % n)) ∧ w = w' := by
  obtain ⟨b1, b2⟩ := tmod_bd a n h1
  go_enter Tryd.func79, Tryd.ntmps79
  go_wp2
  all_goals go_ret
  · exact ⟨ret_int (by rw [emod_of_tmod_neg _ _ h1 (by omega)]), rfl⟩
  · exact ⟨ret_int (by rw [emod_of_tmod_nn _ _ h1 (by omega)]), rfl⟩

set_option maxHeartbeats 400000 in
theorem add_any (n a b : Int) (w : World) :
    Calls Tryd.prog 24 #[.int .i64 n, .int .i64 a, .int .i64 b] w fun e w' => e = .returned (.int .i64 (addI n a b)) ∧ w = w' := by
  cases hm : modB n
  · have H := mkHid hm
    go_enter Tryd.func24, Tryd.ntmps24
    go_wp2_with (go_at_call 76; refine (valid_no _ _ H.out).mono ?_; rintro e w' ⟨rfl, rfl⟩)
    go_ret
    exact ⟨ret_int (by simp [addI, hm]), rfl⟩
  · obtain ⟨h1, h2⟩ := modB_iff.1 hm
    have H := mkHid hm
    obtain ⟨a1, a2⟩ := emod_bd a n h1
    obtain ⟨a5, a6⟩ := emod_bd (a + b) n h1
    obtain ⟨a3, a4⟩ := emod_bd b n h1
    clear hm
    go_enter Tryd.func24, Tryd.ntmps24
    go_wp2_with (first | (go_at_call 76; refine (valid_yes _ _ H.out).mono ?_; rintro e w' ⟨rfl, rfl⟩) | (go_at_call 77; refine (residue_any _ _ _ h1 h2).mono ?_; rintro e w' ⟨rfl, rfl⟩))
    go_ret
    exact ⟨ret_int (by unfold addI; rw [if_pos H.out]), rfl⟩
end Go.Proofs.YtbllanmhbfnagaaDoor
