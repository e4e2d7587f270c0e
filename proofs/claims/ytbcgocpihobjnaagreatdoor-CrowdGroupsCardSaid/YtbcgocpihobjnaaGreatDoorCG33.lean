import Derived.BigQuiet
import Derived.Laws.StructEq
import Derived.Test.YtbcgocpihobjnaaGreatDoorCG26
import Derived.Test.YtbcgocpihobjnaaGreatDoorCG25
import Derived.Test.YtbcgocpihobjnaaGreatDoorCG23
import Derived.Test.YtbcgocpihobjnaaGreatDoorCG32
import Derived.Test.YtbcgocpihobjnaaGreatDoorCG24
import Derived.Test.YtbcgocpihobjnaaGreatDoorCG11
import Derived.Test.YtbcgocpihobjnaaGreatDoorCG21
import Derived.Test.YtbcgocpihobjnaaGreatDoorCG29
set_option linter.all false
namespace Go.Proofs.YtbcgocpihobjnaaGreatDoor
open Go.RowKit Go.Sort Go.Maps
theorem Zg2 (w:World) (P:Nat→Prop) (l r:List Nat) (c:Int):Zam w P (.mk 0 l r c []) [.int .i64 0,.string (Zag l),.string (Zag r),.int .i64 c,.slice none 0 0]:=by
 unfold Zam;exact⟨none,0,rfl,.inl rfl⟩
end Go.Proofs.YtbcgocpihobjnaaGreatDoor
