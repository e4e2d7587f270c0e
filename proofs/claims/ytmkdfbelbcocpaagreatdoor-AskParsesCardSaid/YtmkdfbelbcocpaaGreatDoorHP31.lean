import Derived.ProofKit
import Derived.ChangeArms
import Derived.DataReads
import Derived.Test.YtmkdfbelbcocpaaGreatDoorHP29
set_option linter.unusedVariables false
set_option linter.unusedSimpArgs false
namespace Go.Proofs.YtmkdfbelbcocpaaGreatDoor
open Go Go.ChangeShapes Go.WideShapes Go.ChangeAt Go.WideMaps Go.WideElems Go.RowKit
theorem strN_of_bytes (s:ByteArray):∃ l:List Nat,s=strN l∧(∀ y∈l,y<256)∧l.length=s.size:=by
 refine⟨s.data.toList.map UInt8.toNat,?_,fun y hy=>?_,by simp⟩
 ·unfold strN
  rw[List.map_map]
  have:(UInt8.ofNat ∘ UInt8.toNat)=id:=by funext x;simp
  rw[this,List.map_id]
 ·obtain⟨x,_,rfl⟩:=List.mem_map.1 hy
  exact x.toNat_lt
instance:Inhabited Prd:=⟨prd0⟩
theorem addr_one {w:World} {a:Addr} {v:Value} (h:w.cell? a=some v):∃ b off,a=⟨b,off,none⟩∧b<w.heap.size:=by
 obtain⟨b,off,spot⟩:=a
 have hspot:spot=none:=World.cell?_spot h
 subst hspot
 exact⟨b,off,rfl,World.block_lt_of_cell? w ⟨b,off,none⟩ h⟩
section
variable {H:Type} {enc:TypeId×Value→H} {W:World}
end
end Go.Proofs.YtmkdfbelbcocpaaGreatDoor
