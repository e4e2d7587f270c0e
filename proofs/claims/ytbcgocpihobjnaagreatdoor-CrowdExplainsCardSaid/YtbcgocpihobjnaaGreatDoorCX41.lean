import Derived.WideKeyEntry
import Derived.Test.YtbcgocpihobjnaaGreatDoorCX35
import Derived.Test.YtbcgocpihobjnaaGreatDoorCX0
set_option linter.all false
namespace Go.Proofs.YtbcgocpihobjnaaGreatDoor
open Go.RowKit Go.Sort Go.Maps
theorem Zxj {x:Int} {n:Nat}:Zc2 x n=true↔0≤x∧x.toNat<n:=by
 unfold Zc2 inB;rw[Bool.and_eq_true,decide_eq_true_eq,decide_eq_true_eq];omega
end Go.Proofs.YtbcgocpihobjnaaGreatDoor
