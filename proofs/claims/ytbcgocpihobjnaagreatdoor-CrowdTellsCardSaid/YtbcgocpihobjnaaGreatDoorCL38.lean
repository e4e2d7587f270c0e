import Derived.Test.YtbcgocpihobjnaaGreatDoorCL37
import Derived.Test.YtbcgocpihobjnaaGreatDoorCL27
set_option linter.all false
set_option maxRecDepth 100000
namespace Go.Proofs.YtbcgocpihobjnaaGreatDoor
open Go Go.ChangeShapes Go.WideShapes Go.ChangeAt Go.WideMaps Go.WideElems Go.RowKit
section
variable {H:Type} {enc:TypeId×Value->H} {W:World}
theorem Zxg:∀ (fuel:Nat) (cs:List Value) (x:DataW H×List MemPlace),DataW.trod enc Tryz.prog W 0 (fun _=>true) true fuel 54 cs=some x->∃ p,cK W (fun g=>g<W.heap.size) p cs/\ByL p/\vO p:=by
 intro fuel
 induction fuel using Nat.strongRecOn with
 | _ fuel ih =>
  intro cs x h;obtain⟨xs,n,hn,-,hl,tV,hf⟩:=DataW.trod_struct Tryz.underlying54 h;rw[cP] at hl
  match cs,hl with
  | [c0,c1,c2,c3,c4],_ =>
   match xs,tV with
   | [y0,y1,y2,y3,y4],_ =>
    have f0:DataW.trod enc Tryz.prog W 0 (fun _=>true) true n 3 (([c0,c1,c2,c3,c4].drop 0).take (Tryz.prog.cellsOf 3))=some y0:=hf 0 _ rfl;have f1:DataW.trod enc Tryz.prog W 0 (fun _=>true) true n 9 (([c0,c1,c2,c3,c4].drop 1).take (Tryz.prog.cellsOf 9))=some y1:=hf 1 _ rfl;have f2:DataW.trod enc Tryz.prog W 0 (fun _=>true) true n 9 (([c0,c1,c2,c3,c4].drop 2).take (Tryz.prog.cellsOf 9))=some y2:=hf 2 _ rfl;have f3:DataW.trod enc Tryz.prog W 0 (fun _=>true) true n 3 (([c0,c1,c2,c3,c4].drop 3).take (Tryz.prog.cellsOf 3))=some y3:=hf 3 _ rfl;have f4:DataW.trod enc Tryz.prog W 0 (fun _=>true) true n 22 (([c0,c1,c2,c3,c4].drop 4).take (Tryz.prog.cellsOf 22))=some y4:=hf 4 _ rfl;rw[cI] at f0 f3;rw[cS] at f1 f2;rw[cL] at f4;obtain⟨k,e0,-,-⟩:=DataW.trod_int Tryz.underlying3 (show DataW.trod enc Tryz.prog W 0 (fun _=>true) true n 3 [c0]=some y0 from f0);obtain⟨s1,e1,-,z1⟩:=DataW.trod_string Tryz.underlying9 (show DataW.trod enc Tryz.prog W 0 (fun _=>true) true n 9 [c1]=some y1 from f1);obtain⟨s2,e2,-,z2⟩:=DataW.trod_string Tryz.underlying9 (show DataW.trod enc Tryz.prog W 0 (fun _=>true) true n 9 [c2]=some y2 from f2);obtain⟨c,e3,-,-⟩:=DataW.trod_int Tryz.underlying3 (show DataW.trod enc Tryz.prog W 0 (fun _=>true) true n 3 [c3]=some y3 from f3);obtain⟨ao,m,cap,e4,dX,kX,nN⟩:=Sx Tryz.underlying22 cP (by decide) (show DataW.trod enc Tryz.prog W 0 (fun _=>true) true n 22 [c4]=some y4 from f4);simp only[List.cons.injEq,and_true] at e0 e1 e2 e3;subst e0 e1 e2 e3 e4;obtain⟨l1,rfl,b1,g1⟩:=EI s1;obtain⟨l2,rfl,b2,g2⟩:=EI s2
    have By:∃ ks:List Prd,ks.length=m/\(ks=[]\/∃ g off,ao=some ⟨g,off,none⟩/\g<W.heap.size/\g<W.heap.size/\gE W (fun g=>g<W.heap.size) ks g off)/\Sv ks/\Ss ks:=by
     rcases nN with h0 | ⟨g,off,n',h1,h2,h3,h4⟩
     ·exact⟨[],h0.symm,.inl rfl,by unfold Sv;trivial,by unfold Ss;trivial⟩
     ·obtain⟨ks,iQ,hk⟩:=Sw (α:=Prd) m (fun i p=>(∃ vs,cK W (fun g=>g<W.heap.size) p vs/\dD W g (off+i*5) vs)/\ByL p/\vO p) (fun i hi=>by
       obtain⟨cs,y,h5,h6,h7⟩:=h4 i hi;obtain⟨p,Tt,ww,xd⟩:=ih n' (by omega) cs y h7
       exact⟨p,⟨cs,Tt,h6⟩,ww,xd⟩)
      refine⟨ks,iQ,.inr ⟨g,off,h1,h2,h2,EJ ks g off (fun i p hp=>(hk i p hp).1)⟩,(nk ks).2 (fun q hq=>?_),(DO ks).2 (fun q hq=>?_)⟩
      ·obtain⟨i,hi⟩:=List.mem_iff_getElem?.1 hq
       exact(hk i q hi).2.1
      ·obtain⟨i,hi⟩:=List.mem_iff_getElem?.1 hq
       exact(hk i q hi).2.2
    obtain⟨ks,iQ,Pk,uH,bT⟩:=By;refine⟨.mk k l1 l2 c ks,?_,?_,?_⟩
    ·unfold cK
     exact⟨ao,cap,by rw[iQ],Pk⟩
    ·unfold ByL
     exact⟨⟨b1,by rw[g1];exact Nat.le_trans z1 (by decide)⟩,⟨b2,by rw[g2];exact Nat.le_trans z2 (by decide)⟩,uH⟩
    ·unfold vO
     refine⟨?_,bT⟩;rw[iQ];exact Nat.le_trans dX (Nat.le_trans kX (by decide))
end
end Go.Proofs.YtbcgocpihobjnaaGreatDoor
