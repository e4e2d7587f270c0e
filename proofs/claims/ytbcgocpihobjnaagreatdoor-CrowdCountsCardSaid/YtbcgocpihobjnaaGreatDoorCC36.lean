import Derived.BigQuiet
import Derived.Laws.StructEq
import Derived.Test.YtbcgocpihobjnaaGreatDoorCC26
import Derived.Test.YtbcgocpihobjnaaGreatDoorCC32
import Derived.Test.YtbcgocpihobjnaaGreatDoorCC25
import Derived.Test.YtbcgocpihobjnaaGreatDoorCC23
import Derived.Test.YtbcgocpihobjnaaGreatDoorCC35
import Derived.Test.YtbcgocpihobjnaaGreatDoorCC24
import Derived.Test.YtbcgocpihobjnaaGreatDoorCC11
import Derived.Test.YtbcgocpihobjnaaGreatDoorCC21
set_option linter.all false
namespace Go.Proofs.YtbcgocpihobjnaaGreatDoor
open Go.RowKit Go.Sort Go.Maps
theorem Zhu(w:World)(P:Nat->Prop)(l r:List Nat)(c:Int):Zao w P (.mk 0 l r c []) [.int .i64 0,.string (Zad l),.string (Zad r),.int .i64 c,.slice none 0 0]:=by
 unfold Zao;exact⟨none,0,rfl,.inl rfl⟩
end Go.Proofs.YtbcgocpihobjnaaGreatDoor
