import Derived.BigQuiet
import Derived.Laws.StructEq
import Derived.Test.YtbcgocpihobjnaaGreatDoorCL26
import Derived.Test.YtbcgocpihobjnaaGreatDoorCL25
import Derived.Test.YtbcgocpihobjnaaGreatDoorCL23
import Derived.Test.YtbcgocpihobjnaaGreatDoorCL31
import Derived.Test.YtbcgocpihobjnaaGreatDoorCL24
import Derived.Test.YtbcgocpihobjnaaGreatDoorCL11
import Derived.Test.YtbcgocpihobjnaaGreatDoorCL21
set_option linter.all false
namespace Go.Proofs.YtbcgocpihobjnaaGreatDoor
open Go.RowKit Go.Sort Go.Maps
theorem EK(w:World)(P:Nat->Prop)(l r:List Nat)(c:Int):cK w P (.mk 0 l r c []) [.int .i64 0,.string (aB l),.string (aB r),.int .i64 c,.slice none 0 0]:=by
 unfold cK;exact⟨none,0,rfl,.inl rfl⟩
end Go.Proofs.YtbcgocpihobjnaaGreatDoor
