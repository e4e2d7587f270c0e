import Derived.Test.YtmkdfbelbcocpaaGreatDoorProg
import Derived.WalkKit
import Derived.WalkSpells
import Derived.WalkLawsBesides
import Derived.Test.YtmkdfbelbcocpaaGreatDoorCD0
set_option linter.unusedVariables false
set_option linter.unusedSimpArgs false
set_option maxHeartbeats 400000
namespace Go.Proofs.YtmkdfbelbcocpaaGreatDoor
open Go.RowKit
theorem Zag {a b:Bool} (h:a=b):Ending.returned (.bool a) = .returned (.bool b):=by rw[h]
theorem Zdz (c:Nat) (w:World) :
  Calls Tryz.prog 197 #[.int .u8 (c:Int)] w fun e w'=>e = .returned (.bool (Zoq c))∧w=w':=by
 go_enter Tryz.func197,Tryz.ntmps197
 go_wp2
 all_goals
  go_ret
  exact⟨Zag (by unfold Zoq;rw[Bool.eq_iff_iff];simp;try omega),rfl⟩
theorem Zgx (c:Nat) (w:World) :
  Calls Tryz.prog 199 #[.int .u8 (c:Int)] w fun e w'=>e = .returned (.bool (Zd7 c))∧w=w':=by
 go_enter Tryz.func199,Tryz.ntmps199
 go_wp2
 all_goals
  go_ret
  exact⟨Zag (by unfold Zd7;rw[Bool.eq_iff_iff];simp;try omega),rfl⟩
theorem Zxr (c:Nat) (w:World) :
  Calls Tryz.prog 242 #[.int .u8 (c:Int)] w fun e w'=>e = .returned (.bool (Z7p c))∧w=w':=by
 go_enter Tryz.func242,Tryz.ntmps242
 go_wp2
 all_goals
  go_ret
  exact⟨Zag (by unfold Z7p;rw[Bool.eq_iff_iff];simp;try omega),rfl⟩
theorem Zxs (c:Nat) (w:World) :
  Calls Tryz.prog 196 #[.int .u8 (c:Int)] w fun e w'=>e = .returned (.bool (Zjg c))∧w=w':=by
 go_enter Tryz.func196,Tryz.ntmps196
 go_wp2
 all_goals
  go_ret
  exact⟨Zag (by unfold Zjg;rw[Bool.eq_iff_iff];simp;try omega),rfl⟩
end Go.Proofs.YtmkdfbelbcocpaaGreatDoor
