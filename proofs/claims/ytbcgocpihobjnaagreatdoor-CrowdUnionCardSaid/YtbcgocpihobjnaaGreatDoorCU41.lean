import Derived.WideKeyEntry
import Derived.Test.YtbcgocpihobjnaaGreatDoorCU35
import Derived.Test.YtbcgocpihobjnaaGreatDoorCU0
set_option linter.all false
namespace Go.Proofs.YtbcgocpihobjnaaGreatDoor
open Go.RowKit Go.Sort Go.Maps
theorem Zoj {x:Int} {n:Nat}:Zcr x n=true↔0≤x∧x.toNat<n:=by
 unfold Zcr inB;rw[Bool.and_eq_true,decide_eq_true_eq,decide_eq_true_eq];omega
end Go.Proofs.YtbcgocpihobjnaaGreatDoor
