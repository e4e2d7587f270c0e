import Derived.BigQuiet
import Derived.Laws.StructEq
import Derived.Test.YtbcgocpihobjnaaGreatDoorCO27
import Derived.Test.YtbcgocpihobjnaaGreatDoorCO26
import Derived.Test.YtbcgocpihobjnaaGreatDoorCO24
import Derived.Test.YtbcgocpihobjnaaGreatDoorCO32
import Derived.Test.YtbcgocpihobjnaaGreatDoorCO25
import Derived.Test.YtbcgocpihobjnaaGreatDoorCO13
import Derived.Test.YtbcgocpihobjnaaGreatDoorCO22
set_option linter.unusedVariables false
set_option linter.unusedSimpArgs false
namespace Go.Proofs.YtbcgocpihobjnaaGreatDoor
open Go.RowKit Go.Sort Go.Maps
theorem Zf4 (w:World) (P:Nat→Prop) (l r:List Nat) (c:Int):Zal w P (.mk 0 l r c []) [.int .i64 0,.string (Zag l),.string (Zag r),.int .i64 c,.slice none 0 0]:=by
 unfold Zal
 exact⟨none,0,rfl,.inl rfl⟩
end Go.Proofs.YtbcgocpihobjnaaGreatDoor
