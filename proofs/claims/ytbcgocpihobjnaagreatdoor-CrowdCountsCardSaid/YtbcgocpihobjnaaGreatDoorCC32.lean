import Derived.Test.YtbcgocpihobjnaaGreatDoorCC26
set_option linter.all false
namespace Go.Proofs.YtbcgocpihobjnaaGreatDoor
open Go.RowKit Go.Sort
theorem Zjx(i:Nat)(h:i<9):i=0\/i=1\/i=2\/i=3\/i=4\/i=5\/i=6\/i=7\/i=8:=by omega
end Go.Proofs.YtbcgocpihobjnaaGreatDoor
