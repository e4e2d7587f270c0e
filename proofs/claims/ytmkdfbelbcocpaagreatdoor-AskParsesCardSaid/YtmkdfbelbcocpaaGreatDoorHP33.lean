import Derived.SevenTiedAt
import Derived.Test.YtmkdfbelbcocpaaGreatDoorHP32
set_option linter.unusedVariables false
set_option linter.unusedSimpArgs false
set_option maxRecDepth 100000
namespace Go.Proofs.YtmkdfbelbcocpaaGreatDoor
open Go
theorem com_main:Tryz.pinned.checked.prog.mainIs=some ((true,"e946dd738e9aa7fac4b3de290664a7b0d746a21bc6ee9596d7723f6a41ddd4f9").1,((true,"e946dd738e9aa7fac4b3de290664a7b0d746a21bc6ee9596d7723f6a41ddd4f9"):Bool×String).2.toList):=by kernel_rfl
theorem com_looks:true = Tryz.pinned.checked.prog.looks []:=by kernel_rfl
end Go.Proofs.YtmkdfbelbcocpaaGreatDoor
