import Derived.BigQuiet
import Derived.Laws.StructEq
import Derived.Test.YtbcgocpihobjnaaGreatDoorCV26
import Derived.Test.YtbcgocpihobjnaaGreatDoorCV25
import Derived.Test.YtbcgocpihobjnaaGreatDoorCV23
import Derived.Test.YtbcgocpihobjnaaGreatDoorCV31
import Derived.Test.YtbcgocpihobjnaaGreatDoorCV24
import Derived.Test.YtbcgocpihobjnaaGreatDoorCV11
import Derived.Test.YtbcgocpihobjnaaGreatDoorCV21
set_option linter.all false
namespace Go.Proofs.YtbcgocpihobjnaaGreatDoor
open Go.RowKit Go.Sort Go.Maps
theorem Zg5 (w:World) (P:Nat→Prop) (l r:List Nat) (c:Int):Zao w P (.mk 0 l r c []) [.int .i64 0,.string (Zag l),.string (Zag r),.int .i64 c,.slice none 0 0]:=by
 unfold Zao;exact⟨none,0,rfl,.inl rfl⟩
end Go.Proofs.YtbcgocpihobjnaaGreatDoor
