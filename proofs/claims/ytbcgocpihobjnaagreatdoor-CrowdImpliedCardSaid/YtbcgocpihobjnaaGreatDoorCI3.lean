import Derived.Test.YtbcgocpihobjnaaGreatDoorProg
import Derived.WalkKit
import Derived.WalkSpells
import Derived.WalkLawsBesides
import Derived.Test.YtbcgocpihobjnaaGreatDoorCI0
set_option linter.all false
set_option maxHeartbeats 400000
namespace Go.Proofs.YtbcgocpihobjnaaGreatDoor
open Go.RowKit
theorem Zad {a b:Bool} (h:a=b):Ending.returned (.bool a) = .returned (.bool b):=by rw[h]
theorem Zhx (c:Nat) (w:World) :
  Calls Tryz.prog 248 #[.int .u8 (c:Int)] w fun e w'=>e = .returned (.bool (Z2n c))∧w=w':=by
 go_enter Tryz.func248,Tryz.ntmps248
 go_wp2
 all_goals
  go_ret;exact⟨Zad (by unfold Z2n;rw[Bool.eq_iff_iff];simp;try omega),rfl⟩
theorem Zxf (c:Nat) (w:World) :
  Calls Tryz.prog 277 #[.int .u8 (c:Int)] w fun e w'=>e = .returned (.bool (Z4w c))∧w=w':=by
 go_enter Tryz.func277,Tryz.ntmps277
 go_wp2
 all_goals
  go_ret;exact⟨Zad (by unfold Z4w;rw[Bool.eq_iff_iff];simp;try omega),rfl⟩
end Go.Proofs.YtbcgocpihobjnaaGreatDoor
