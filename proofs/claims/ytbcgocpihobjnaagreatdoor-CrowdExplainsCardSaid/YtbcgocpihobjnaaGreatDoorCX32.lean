import Derived.BigQuiet
import Derived.Laws.StructEq
import Derived.Test.YtbcgocpihobjnaaGreatDoorCX26
import Derived.Test.YtbcgocpihobjnaaGreatDoorCX25
import Derived.Test.YtbcgocpihobjnaaGreatDoorCX23
import Derived.Test.YtbcgocpihobjnaaGreatDoorCX31
import Derived.Test.YtbcgocpihobjnaaGreatDoorCX24
import Derived.Test.YtbcgocpihobjnaaGreatDoorCX11
import Derived.Test.YtbcgocpihobjnaaGreatDoorCX21
set_option linter.all false
namespace Go.Proofs.YtbcgocpihobjnaaGreatDoor
open Go.RowKit Go.Sort Go.Maps
theorem Zgu (w:World) (P:Nat→Prop) (l r:List Nat) (c:Int):Zal w P (.mk 0 l r c []) [.int .i64 0,.string (Zag l),.string (Zag r),.int .i64 c,.slice none 0 0]:=by
 unfold Zal;exact⟨none,0,rfl,.inl rfl⟩
end Go.Proofs.YtbcgocpihobjnaaGreatDoor
