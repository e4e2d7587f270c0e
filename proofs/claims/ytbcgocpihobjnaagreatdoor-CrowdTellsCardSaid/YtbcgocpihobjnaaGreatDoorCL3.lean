import Derived.Test.YtbcgocpihobjnaaGreatDoorProg
import Derived.WalkKit
import Derived.WalkSpells
import Derived.WalkLawsBesides
import Derived.Test.YtbcgocpihobjnaaGreatDoorCL0
set_option linter.all false
set_option maxHeartbeats 400000
namespace Go.Proofs.YtbcgocpihobjnaaGreatDoor
open Go.RowKit
theorem aF{a b:Bool}(h:a=b):Ending.returned (.bool a) = .returned (.bool b):=by rw[h]
theorem EE(c:Nat)(w:World) :
  Calls Tryz.prog 248 #[.int .u8 (c:Int)] w fun e w'=>e = .returned (.bool (tX c))/\w=w':=by
 go_enter Tryz.func248,Tryz.ntmps248
 go_wp2
 all_goals
  go_ret;exact⟨aF (by unfold tX;rw[Bool.eq_iff_iff];simp;try omega),rfl⟩
theorem Zwn(c:Nat)(w:World) :
  Calls Tryz.prog 277 #[.int .u8 (c:Int)] w fun e w'=>e = .returned (.bool (Ko c))/\w=w':=by
 go_enter Tryz.func277,Tryz.ntmps277
 go_wp2
 all_goals
  go_ret;exact⟨aF (by unfold Ko;rw[Bool.eq_iff_iff];simp;try omega),rfl⟩
theorem nr(c:Nat)(w:World) :
  Calls Tryz.prog 265 #[.int .u8 (c:Int)] w fun e w'=>e = .returned (.bool (tX c))/\w=w':=by
 go_enter Tryz.func265,Tryz.ntmps265
 go_wp2
 all_goals
  go_ret;exact⟨aF (by unfold tX;rw[Bool.eq_iff_iff];simp;try omega),rfl⟩
theorem WH(c:Nat)(w:World) :
  Calls Tryz.prog 266 #[.int .u8 (c:Int)] w fun e w'=>e = .returned (.bool (Ko c))/\w=w':=by
 go_enter Tryz.func266,Tryz.ntmps266
 go_wp2
 all_goals
  go_ret;exact⟨aF (by unfold Ko;rw[Bool.eq_iff_iff];simp;try omega),rfl⟩
end Go.Proofs.YtbcgocpihobjnaaGreatDoor
