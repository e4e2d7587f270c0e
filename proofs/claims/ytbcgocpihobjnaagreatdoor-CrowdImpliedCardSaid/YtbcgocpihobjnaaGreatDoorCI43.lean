import Derived.WideKeyEntry
import Derived.Test.YtbcgocpihobjnaaGreatDoorCI38
import Derived.Test.YtbcgocpihobjnaaGreatDoorCI0
set_option linter.all false
namespace Go.Proofs.YtbcgocpihobjnaaGreatDoor
open Go.RowKit Go.Sort Go.Maps
theorem Z2b {c:Crw} {C:List (List Bool)} {u m:Nat}:m∈Zif c C u↔m<c.ms.length∧Zng c C u m=true:=by
 unfold Zif;rw[List.mem_filter,List.mem_range]
end Go.Proofs.YtbcgocpihobjnaaGreatDoor
