import Derived.BigQuiet
import Derived.Laws.StructEq
import Derived.Test.YtbcgocpihobjnaaGreatDoorCI29
import Derived.Test.YtbcgocpihobjnaaGreatDoorCI34
import Derived.Test.YtbcgocpihobjnaaGreatDoorCI24
import Derived.Test.YtbcgocpihobjnaaGreatDoorCI12
import Derived.Test.YtbcgocpihobjnaaGreatDoorCI23
import Derived.Test.YtbcgocpihobjnaaGreatDoorCI21
import Derived.Test.YtbcgocpihobjnaaGreatDoorCI31
set_option linter.all false
namespace Go.Proofs.YtbcgocpihobjnaaGreatDoor
open Go.RowKit Go.Sort Go.Maps
theorem Zhy (w:World) (P:Nat→Prop) (l r:List Nat) (c:Int):Zan w P (.mk 0 l r c []) [.int .i64 0,.string (Zac l),.string (Zac r),.int .i64 c,.slice none 0 0]:=by
 unfold Zan;exact⟨none,0,rfl,.inl rfl⟩
end Go.Proofs.YtbcgocpihobjnaaGreatDoor
