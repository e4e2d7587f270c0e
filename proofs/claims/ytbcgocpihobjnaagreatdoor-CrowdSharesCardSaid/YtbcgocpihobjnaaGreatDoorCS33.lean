import Derived.BigQuiet
import Derived.Laws.StructEq
import Derived.Test.YtbcgocpihobjnaaGreatDoorCS27
import Derived.Test.YtbcgocpihobjnaaGreatDoorCS26
import Derived.Test.YtbcgocpihobjnaaGreatDoorCS24
import Derived.Test.YtbcgocpihobjnaaGreatDoorCS32
import Derived.Test.YtbcgocpihobjnaaGreatDoorCS25
import Derived.Test.YtbcgocpihobjnaaGreatDoorCS13
import Derived.Test.YtbcgocpihobjnaaGreatDoorCS22
set_option linter.unusedVariables false
set_option linter.unusedSimpArgs false
namespace Go.Proofs.YtbcgocpihobjnaaGreatDoor
open Go.RowKit Go.Sort Go.Maps
theorem Zgn (w:World) (P:Nat→Prop) (l r:List Nat) (c:Int):Zal w P (.mk 0 l r c []) [.int .i64 0,.string (Zag l),.string (Zag r),.int .i64 c,.slice none 0 0]:=by
 unfold Zal
 exact⟨none,0,rfl,.inl rfl⟩
end Go.Proofs.YtbcgocpihobjnaaGreatDoor
