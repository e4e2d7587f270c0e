import Derived.BigQuiet
import Derived.Laws.StructEq
import Derived.Test.YtbcgocpihobjnaaGreatDoorCM26
import Derived.Test.YtbcgocpihobjnaaGreatDoorCM25
import Derived.Test.YtbcgocpihobjnaaGreatDoorCM23
import Derived.Test.YtbcgocpihobjnaaGreatDoorCM31
import Derived.Test.YtbcgocpihobjnaaGreatDoorCM24
import Derived.Test.YtbcgocpihobjnaaGreatDoorCM11
import Derived.Test.YtbcgocpihobjnaaGreatDoorCM21
set_option linter.all false
namespace Go.Proofs.YtbcgocpihobjnaaGreatDoor
open Go.RowKit Go.Sort Go.Maps
theorem Zgv (w:World) (P:Nat→Prop) (l r:List Nat) (c:Int):Zam w P (.mk 0 l r c []) [.int .i64 0,.string (Zag l),.string (Zag r),.int .i64 c,.slice none 0 0]:=by
 unfold Zam;exact⟨none,0,rfl,.inl rfl⟩
end Go.Proofs.YtbcgocpihobjnaaGreatDoor
