import Derived.Test.YtmkdfbelbcocpaaGreatDoorProg
import Derived.WalkKit
import Derived.WalkSpells
import Derived.WalkLawsBesides
import Derived.Test.YtmkdfbelbcocpaaGreatDoorCU0
set_option linter.unusedVariables false
set_option linter.unusedSimpArgs false
set_option maxHeartbeats 400000
namespace Go.Proofs.YtmkdfbelbcocpaaGreatDoor
open Go.RowKit
theorem ret_bool {a b:Bool} (h:a=b):Ending.returned (.bool a) = .returned (.bool b):=by rw[h]
theorem letter_any (c:Nat) (w:World) :
  Calls Tryz.prog 197 #[.int .u8 (c:Int)] w fun e w'=>e = .returned (.bool (letB c))∧w=w':=by
 go_enter Tryz.func197,Tryz.ntmps197
 go_wp2
 all_goals
  go_ret
  exact⟨ret_bool (by unfold letB;rw[Bool.eq_iff_iff];simp;try omega),rfl⟩
theorem digit_any (c:Nat) (w:World) :
  Calls Tryz.prog 199 #[.int .u8 (c:Int)] w fun e w'=>e = .returned (.bool (digB c))∧w=w':=by
 go_enter Tryz.func199,Tryz.ntmps199
 go_wp2
 all_goals
  go_ret
  exact⟨ret_bool (by unfold digB;rw[Bool.eq_iff_iff];simp;try omega),rfl⟩
theorem plain_any (c:Nat) (w:World) :
  Calls Tryz.prog 242 #[.int .u8 (c:Int)] w fun e w'=>e = .returned (.bool (plnB c))∧w=w':=by
 go_enter Tryz.func242,Tryz.ntmps242
 go_wp2
 all_goals
  go_ret
  exact⟨ret_bool (by unfold plnB;rw[Bool.eq_iff_iff];simp;try omega),rfl⟩
theorem blank_any (c:Nat) (w:World) :
  Calls Tryz.prog 196 #[.int .u8 (c:Int)] w fun e w'=>e = .returned (.bool (blkB c))∧w=w':=by
 go_enter Tryz.func196,Tryz.ntmps196
 go_wp2
 all_goals
  go_ret
  exact⟨ret_bool (by unfold blkB;rw[Bool.eq_iff_iff];simp;try omega),rfl⟩
end Go.Proofs.YtmkdfbelbcocpaaGreatDoor
