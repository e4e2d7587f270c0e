import Derived.Test.YtmkdfbelbcocpaaGreatDoorProg
import Derived.WalkKit
import Derived.WalkSpells
import Derived.WalkLawsBesides
import Derived.Test.YtmkdfbelbcocpaaGreatDoorCL0
set_option linter.unusedVariables false
set_option linter.unusedSimpArgs false
set_option maxHeartbeats 400000
namespace Go.Proofs.YtmkdfbelbcocpaaGreatDoor
open Go.RowKit
theorem Zaf {a b:Bool} (h:a=b):Ending.returned (.bool a) = .returned (.bool b):=by rw[h]
theorem Zev (c:Nat) (w:World) :
  Calls Tryz.prog 197 #[.int .u8 (c:Int)] w fun e w'=>e = .returned (.bool (Zkj c))∧w=w':=by
 go_enter Tryz.func197,Tryz.ntmps197
 go_wp2
 all_goals
  go_ret
  exact⟨Zaf (by unfold Zkj;rw[Bool.eq_iff_iff];simp;try omega),rfl⟩
theorem Zg3 (c:Nat) (w:World) :
  Calls Tryz.prog 199 #[.int .u8 (c:Int)] w fun e w'=>e = .returned (.bool (Zdw c))∧w=w':=by
 go_enter Tryz.func199,Tryz.ntmps199
 go_wp2
 all_goals
  go_ret
  exact⟨Zaf (by unfold Zdw;rw[Bool.eq_iff_iff];simp;try omega),rfl⟩
theorem Zxn (c:Nat) (w:World) :
  Calls Tryz.prog 242 #[.int .u8 (c:Int)] w fun e w'=>e = .returned (.bool (Z66 c))∧w=w':=by
 go_enter Tryz.func242,Tryz.ntmps242
 go_wp2
 all_goals
  go_ret
  exact⟨Zaf (by unfold Z66;rw[Bool.eq_iff_iff];simp;try omega),rfl⟩
theorem Zxo (c:Nat) (w:World) :
  Calls Tryz.prog 196 #[.int .u8 (c:Int)] w fun e w'=>e = .returned (.bool (Zjg c))∧w=w':=by
 go_enter Tryz.func196,Tryz.ntmps196
 go_wp2
 all_goals
  go_ret
  exact⟨Zaf (by unfold Zjg;rw[Bool.eq_iff_iff];simp;try omega),rfl⟩
theorem Zk8 (c:Nat) (w:World) :
  Calls Tryz.prog 204 #[.int .u8 (c:Int)] w fun e w'=>e = .returned (.bool (Zkj c))∧w=w':=by
 go_enter Tryz.func204,Tryz.ntmps204
 go_wp2
 all_goals
  go_ret
  exact⟨Zaf (by unfold Zkj;rw[Bool.eq_iff_iff];simp;try omega),rfl⟩
theorem Zvo (c:Nat) (w:World) :
  Calls Tryz.prog 205 #[.int .u8 (c:Int)] w fun e w'=>e = .returned (.bool (Zdw c))∧w=w':=by
 go_enter Tryz.func205,Tryz.ntmps205
 go_wp2
 all_goals
  go_ret
  exact⟨Zaf (by unfold Zdw;rw[Bool.eq_iff_iff];simp;try omega),rfl⟩
end Go.Proofs.YtmkdfbelbcocpaaGreatDoor
