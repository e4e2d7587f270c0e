import Derived.Test.YtmkdfbelbcocpaaGreatDoorProg
import Derived.WalkKit
import Derived.WalkSpells
import Derived.WalkLawsBesides
import Derived.Test.YtmkdfbelbcocpaaGreatDoorCI0
set_option linter.unusedVariables false
set_option linter.unusedSimpArgs false
set_option maxHeartbeats 400000
namespace Go.Proofs.YtmkdfbelbcocpaaGreatDoor
open Go.RowKit
theorem Zag {a b:Bool} (h:a=b):Ending.returned (.bool a) = .returned (.bool b):=by rw[h]
theorem Zdx (c:Nat) (w:World) :
  Calls Tryz.prog 197 #[.int .u8 (c:Int)] w fun e w'=>e = .returned (.bool (Zoh c))∧w=w':=by
 go_enter Tryz.func197,Tryz.ntmps197
 go_wp2
 all_goals
  go_ret
  exact⟨Zag (by unfold Zoh;rw[Bool.eq_iff_iff];simp;try omega),rfl⟩
theorem Zgw (c:Nat) (w:World) :
  Calls Tryz.prog 199 #[.int .u8 (c:Int)] w fun e w'=>e = .returned (.bool (Zd5 c))∧w=w':=by
 go_enter Tryz.func199,Tryz.ntmps199
 go_wp2
 all_goals
  go_ret
  exact⟨Zag (by unfold Zd5;rw[Bool.eq_iff_iff];simp;try omega),rfl⟩
theorem Zxf (c:Nat) (w:World) :
  Calls Tryz.prog 242 #[.int .u8 (c:Int)] w fun e w'=>e = .returned (.bool (Z7m c))∧w=w':=by
 go_enter Tryz.func242,Tryz.ntmps242
 go_wp2
 all_goals
  go_ret
  exact⟨Zag (by unfold Z7m;rw[Bool.eq_iff_iff];simp;try omega),rfl⟩
theorem Zxg (c:Nat) (w:World) :
  Calls Tryz.prog 196 #[.int .u8 (c:Int)] w fun e w'=>e = .returned (.bool (Zi7 c))∧w=w':=by
 go_enter Tryz.func196,Tryz.ntmps196
 go_wp2
 all_goals
  go_ret
  exact⟨Zag (by unfold Zi7;rw[Bool.eq_iff_iff];simp;try omega),rfl⟩
end Go.Proofs.YtmkdfbelbcocpaaGreatDoor
