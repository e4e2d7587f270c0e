import Derived.Test.YtbcgocpihobjnaaGreatDoorCL29
import Derived.Test.YtbcgocpihobjnaaGreatDoorCL26
set_option linter.all false
set_option maxRecDepth 100000
namespace Go.Proofs.YtbcgocpihobjnaaGreatDoor
open Go Go.ChangeShapes Go.WideShapes Go.ChangeAt Go.WideMaps Go.WideElems Go.RowKit
section
variable {H:Type} {enc:TypeId×Value->H} {W:World}
theorem Zxf{r:Reach}{b0:Nat}{v:Value}{d:DataW H}{p:List MemPlace}(hv:Value.okWide Tryz.prog W r b0 33 v)(h:DataW.Trod enc Tryz.prog W 0 (fun _=>true) true 33 v d p) :
  ∃ (l:List Int) (ao:Option Addr) (n c:Nat),v = .slice ao n c/\n=l.length/\n<=9223372036854775807/\aY aZ W ao l:=by
 obtain⟨a0,len,cap,rfl⟩:=okWide_slice Tryz.underlying33 hv;obtain⟨fuel,hf⟩:=h;obtain⟨ao,n,c,e4,dX,kX,nN⟩:=Sx Tryz.underlying33 cI (by decide) (show DataW.trod enc Tryz.prog W 0 (fun _=>true) true fuel 33 [.slice a0 len cap]=some (d,p) from hf);have aQ:n<=9223372036854775807:=Nat.le_trans dX (Nat.le_trans kX (by decide));rcases nN with h0 | ⟨g,off,n',h1,h2,h3,h4⟩
 ·exact⟨[],ao,n,c,e4,h0,aQ,.inl rfl⟩
 ·obtain⟨l,hl,hk⟩:=Sw (α:=Int) n (fun i x=>W.cell? ⟨g,off+i,none⟩=some (.int .i64 x)) (fun i hi=>by
   obtain⟨cs,y,h5,h6,h7⟩:=h4 i hi
   match cs,h5 with
   | [c0],_ =>
    obtain⟨k,e0,-,-⟩:=DataW.trod_int Tryz.underlying3 h7;simp only[List.cons.injEq,and_true] at e0;subst e0;have:=h6 0 _ rfl;rw[Nat.mul_one,Nat.add_zero] at this
    exact⟨k,this⟩)
  refine⟨l,ao,n,c,e4,hl.symm,aQ,.inr ⟨g,off,h1,h2,fun j u hj=>?_⟩⟩;rw[<- Nv,ivs,List.getElem?_map] at hj;obtain⟨x,hx,rfl⟩:=Option.map_eq_some_iff.1 hj;exact hk j x hx
end
end Go.Proofs.YtbcgocpihobjnaaGreatDoor
