import Derived.Shelf.RegionOpenPlain
import Derived.Lib.IndexBytes
import Derived.Test.YtmkdfbelbcocpaaGreatDoorCL21
set_option linter.unusedVariables false
set_option linter.unusedSimpArgs false
namespace Go.Proofs.YtmkdfbelbcocpaaGreatDoor
open Go.RowKit Go.Sort
def NmL (l:List Nat):Prop:=(∀ y∈l,y<256)∧l.length≤9223372036854775807
mutual
def ByL:Prd→Prop
 | .mk k l r c ks=>NmL l∧NmL r∧Z6a ks
def Z6a:List Prd→Prop
 | []=>True
 | p::ps=>ByL p∧Z6a ps
end
theorem Zuu:∀ ks:List Prd,Z6a ks↔∀ q∈ks,ByL q
 | []=>by simp[Z6a]
 | p::ps=>by simp[Z6a,Zuu ps]
end Go.Proofs.YtmkdfbelbcocpaaGreatDoor
