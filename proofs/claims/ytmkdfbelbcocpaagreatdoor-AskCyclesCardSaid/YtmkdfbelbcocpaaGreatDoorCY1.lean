import Derived.Test.YtmkdfbelbcocpaaGreatDoorProg
import Derived.WalkKit
import Derived.WalkSpells
import Derived.WalkLawsBesides
import Derived.Test.YtmkdfbelbcocpaaGreatDoorCY0
set_option linter.unusedVariables false
set_option linter.unusedSimpArgs false
namespace Go.Proofs.YtmkdfbelbcocpaaGreatDoor
open Go.RowKit
theorem ret_bool {a b:Bool} (h:a = b):Ending.returned (.bool a) = .returned (.bool b):=by rw [h]
set_option maxHeartbeats 400000 in
theorem letter_any (c:Nat) (w:World) :
  Calls Tryz.prog 197 #[.int .u8 (c:Int)] w fun e w'=>e = .returned (.bool (letB c))∧w = w':=by
 go_enter Tryz.func197,Tryz.ntmps197
 go_wp2
 all_goals
  go_ret
  exact ⟨ret_bool (by unfold letB; rw [Bool.eq_iff_iff]; simp; try omega),rfl⟩
set_option maxHeartbeats 400000 in
theorem digit_any (c:Nat) (w:World) :
  Calls Tryz.prog 199 #[.int .u8 (c:Int)] w fun e w'=>e = .returned (.bool (digB c))∧w = w':=by
 go_enter Tryz.func199,Tryz.ntmps199
 go_wp2
 all_goals
  go_ret
  exact ⟨ret_bool (by unfold digB; rw [Bool.eq_iff_iff]; simp; try omega),rfl⟩
set_option maxHeartbeats 400000 in
theorem plain_any (c:Nat) (w:World) :
  Calls Tryz.prog 242 #[.int .u8 (c:Int)] w fun e w'=>e = .returned (.bool (plnB c))∧w = w':=by
 go_enter Tryz.func242,Tryz.ntmps242
 go_wp2
 all_goals
  go_ret
  exact ⟨ret_bool (by unfold plnB; rw [Bool.eq_iff_iff]; simp; try omega),rfl⟩
set_option maxHeartbeats 400000 in
theorem blank_any (c:Nat) (w:World) :
  Calls Tryz.prog 196 #[.int .u8 (c:Int)] w fun e w'=>e = .returned (.bool (blkB c))∧w = w':=by
 go_enter Tryz.func196,Tryz.ntmps196
 go_wp2
 all_goals
  go_ret
  exact ⟨ret_bool (by unfold blkB; rw [Bool.eq_iff_iff]; simp; try omega),rfl⟩
set_option maxHeartbeats 400000 in
theorem rletter_any (c:Nat) (w:World) :
  Calls Tryz.prog 204 #[.int .u8 (c:Int)] w fun e w'=>e = .returned (.bool (letB c))∧w = w':=by
 go_enter Tryz.func204,Tryz.ntmps204
 go_wp2
 all_goals
  go_ret
  exact ⟨ret_bool (by unfold letB; rw [Bool.eq_iff_iff]; simp; try omega),rfl⟩
set_option maxHeartbeats 400000 in
theorem rdigit_any (c:Nat) (w:World) :
  Calls Tryz.prog 205 #[.int .u8 (c:Int)] w fun e w'=>e = .returned (.bool (digB c))∧w = w':=by
 go_enter Tryz.func205,Tryz.ntmps205
 go_wp2
 all_goals
  go_ret
  exact ⟨ret_bool (by unfold digB; rw [Bool.eq_iff_iff]; simp; try omega),rfl⟩
end Go.Proofs.YtmkdfbelbcocpaaGreatDoor
