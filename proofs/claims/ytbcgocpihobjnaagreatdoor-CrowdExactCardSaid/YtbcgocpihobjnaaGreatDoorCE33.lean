import Derived.BigQuiet
import Derived.Laws.StructEq
import Derived.Test.YtbcgocpihobjnaaGreatDoorCE26
import Derived.Test.YtbcgocpihobjnaaGreatDoorCE29
import Derived.Test.YtbcgocpihobjnaaGreatDoorCE25
import Derived.Test.YtbcgocpihobjnaaGreatDoorCE23
import Derived.Test.YtbcgocpihobjnaaGreatDoorCE32
import Derived.Test.YtbcgocpihobjnaaGreatDoorCE24
import Derived.Test.YtbcgocpihobjnaaGreatDoorCE11
import Derived.Test.YtbcgocpihobjnaaGreatDoorCE21
set_option linter.all false
namespace Go.Proofs.YtbcgocpihobjnaaGreatDoor
open Go.RowKit Go.Sort Go.Maps
theorem Zg5 (w:World) (P:Nat→Prop) (l r:List Nat) (c:Int):Zan w P (.mk 0 l r c []) [.int .i64 0,.string (Zag l),.string (Zag r),.int .i64 c,.slice none 0 0]:=by
 unfold Zan;exact⟨none,0,rfl,.inl rfl⟩
end Go.Proofs.YtbcgocpihobjnaaGreatDoor
