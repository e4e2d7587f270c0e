import Derived.BigQuiet
import Derived.Laws.StructEq
import Derived.Test.YtbcgocpihobjnaaGreatDoorCT27
import Derived.Test.YtbcgocpihobjnaaGreatDoorCT26
import Derived.Test.YtbcgocpihobjnaaGreatDoorCT24
import Derived.Test.YtbcgocpihobjnaaGreatDoorCT32
import Derived.Test.YtbcgocpihobjnaaGreatDoorCT25
import Derived.Test.YtbcgocpihobjnaaGreatDoorCT12
import Derived.Test.YtbcgocpihobjnaaGreatDoorCT22
set_option linter.unusedVariables false
set_option linter.unusedSimpArgs false
namespace Go.Proofs.YtbcgocpihobjnaaGreatDoor
open Go.RowKit Go.Sort Go.Maps
theorem Zf9 (w:World) (P:Nat→Prop) (l r:List Nat) (c:Int):Zam w P (.mk 0 l r c []) [.int .i64 0,.string (Zag l),.string (Zag r),.int .i64 c,.slice none 0 0]:=by
 unfold Zam
 exact⟨none,0,rfl,.inl rfl⟩
end Go.Proofs.YtbcgocpihobjnaaGreatDoor
