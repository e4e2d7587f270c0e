import Derived.Test.YtmkdfbelbcocpaaGreatDoorCD32
import Derived.Test.YtmkdfbelbcocpaaGreatDoorCD26
import Derived.Test.YtmkdfbelbcocpaaGreatDoorCD23
set_option linter.unusedVariables false
set_option linter.unusedSimpArgs false
set_option maxRecDepth 100000
namespace Go.Proofs.YtmkdfbelbcocpaaGreatDoor
open Go Go.ChangeShapes Go.WideShapes Go.ChangeAt Go.WideMaps Go.WideElems Go.RowKit
theorem Z8i {n:Int} (h:(Lit.int .u8 n).wf=true):∃ m:Nat,n=(m:Int)∧m≤255:=by
 have h0:IntKind.u8.min=0:=by decide
 have h1:IntKind.u8.max=255:=by decide
 simp only[Lit.wf,h0,h1,Bool.and_eq_true,decide_eq_true_eq] at h
 exact⟨n.toNat,by omega,by omega⟩
section
variable {H:Type} {enc:TypeId×Value→H} {W:World}
theorem Zrx:∀ (fuel:Nat) (cs:List Value) (x:DataW H×List MemPlace),DataW.trod enc Tryz.prog W 0 (fun _=>true) true fuel 25 cs=some x→∃ p,Zai W (fun g=>g<W.heap.size) p cs∧ByL p∧Zuu p:=by
 intro fuel
 induction fuel using Nat.strongRecOn with
 | _ fuel ih =>
  intro cs x h
  obtain⟨xs,n,hn,-,hl,hxl,hf⟩:=DataW.trod_struct Tryz.underlying25 h
  rw[cP] at hl
  match cs,hl with
  | [c0,c1,c2,c3,c4],_ =>
   match xs,hxl with
   | [y0,y1,y2,y3,y4],_ =>
    have f0:DataW.trod enc Tryz.prog W 0 (fun _=>true) true n 3 (([c0,c1,c2,c3,c4].drop 0).take (Tryz.prog.cellsOf 3))=some y0:=hf 0 _ rfl
    have f1:DataW.trod enc Tryz.prog W 0 (fun _=>true) true n 9 (([c0,c1,c2,c3,c4].drop 1).take (Tryz.prog.cellsOf 9))=some y1:=hf 1 _ rfl
    have f2:DataW.trod enc Tryz.prog W 0 (fun _=>true) true n 9 (([c0,c1,c2,c3,c4].drop 2).take (Tryz.prog.cellsOf 9))=some y2:=hf 2 _ rfl
    have f3:DataW.trod enc Tryz.prog W 0 (fun _=>true) true n 3 (([c0,c1,c2,c3,c4].drop 3).take (Tryz.prog.cellsOf 3))=some y3:=hf 3 _ rfl
    have f4:DataW.trod enc Tryz.prog W 0 (fun _=>true) true n 23 (([c0,c1,c2,c3,c4].drop 4).take (Tryz.prog.cellsOf 23))=some y4:=hf 4 _ rfl
    rw[cI] at f0 f3
    rw[cS] at f1 f2
    rw[cL] at f4
    obtain⟨k,e0,-,-⟩:=DataW.trod_int Tryz.underlying3 (show DataW.trod enc Tryz.prog W 0 (fun _=>true) true n 3 [c0]=some y0 from f0)
    obtain⟨s1,e1,-,z1⟩:=DataW.trod_string Tryz.underlying9 (show DataW.trod enc Tryz.prog W 0 (fun _=>true) true n 9 [c1]=some y1 from f1)
    obtain⟨s2,e2,-,z2⟩:=DataW.trod_string Tryz.underlying9 (show DataW.trod enc Tryz.prog W 0 (fun _=>true) true n 9 [c2]=some y2 from f2)
    obtain⟨c,e3,-,-⟩:=DataW.trod_int Tryz.underlying3 (show DataW.trod enc Tryz.prog W 0 (fun _=>true) true n 3 [c3]=some y3 from f3)
    obtain⟨ao,m,cap,e4,hmc,hcm,hel⟩:=Zmo Tryz.underlying23 cP (by decide) (show DataW.trod enc Tryz.prog W 0 (fun _=>true) true n 23 [c4]=some y4 from f4)
    simp only[List.cons.injEq,and_true] at e0 e1 e2 e3
    subst e0 e1 e2 e3 e4
    obtain⟨l1,rfl,b1,g1⟩:=Zi5 s1
    obtain⟨l2,rfl,b2,g2⟩:=Zi5 s2
    have hks:∃ ks:List Prd,ks.length=m∧(ks=[]∨∃ g off,ao=some ⟨g,off,none⟩∧g<W.heap.size∧g<W.heap.size∧Za1 W (fun g=>g<W.heap.size) ks g off)∧Z6o ks∧Z6k ks:=by
     rcases hel with h0 | ⟨g,off,n',h1,h2,h3,h4⟩
     ·exact⟨[],h0.symm,.inl rfl,by unfold Z6o;trivial,by unfold Z6k;trivial⟩
     ·obtain⟨ks,hkl,hk⟩:=Zrr (α:=Prd) m (fun i p=>(∃ vs,Zai W (fun g=>g<W.heap.size) p vs∧Za3 W g (off+i*5) vs)∧ByL p∧Zuu p) (fun i hi=>by
       obtain⟨cs,y,h5,h6,h7⟩:=h4 i hi
       obtain⟨p,hp1,hp2,hp3⟩:=ih n' (by omega) cs y h7
       exact⟨p,⟨cs,hp1,h6⟩,hp2,hp3⟩)
      refine⟨ks,hkl,.inr ⟨g,off,h1,h2,h2,Zpm ks g off (fun i p hp=>(hk i p hp).1)⟩,(Zpf ks).2 (fun q hq=>?_),(Zpd ks).2 (fun q hq=>?_)⟩
      ·obtain⟨i,hi⟩:=List.mem_iff_getElem?.1 hq
       exact (hk i q hi).2.1
      ·obtain⟨i,hi⟩:=List.mem_iff_getElem?.1 hq
       exact (hk i q hi).2.2
    obtain⟨ks,hkl,hkc,hkr,hkn⟩:=hks
    refine⟨.mk k l1 l2 c ks,?_,?_,?_⟩
    ·unfold Zai
     exact⟨ao,cap,by rw[hkl],hkc⟩
    ·unfold ByL
     exact⟨⟨b1,by rw[g1];exact Nat.le_trans z1 (by decide)⟩,⟨b2,by rw[g2];exact Nat.le_trans z2 (by decide)⟩,hkr⟩
    ·unfold Zuu
     refine⟨?_,hkn⟩
     rw[hkl]
     exact Nat.le_trans hmc (Nat.le_trans hcm (by decide))
theorem Z00 {r:Reach} {b0:Nat} {v:Value} {d:DataW H} {p:List MemPlace} (hv:Value.okWide Tryz.prog W r b0 25 v) (h:DataW.Trod enc Tryz.prog W 0 (fun _=>true) true 25 v d p) :
  ∃ (q:Prd) (vs:List Value),v = .agg vs.toArray∧Zai W (fun g=>g<W.heap.size) q vs∧ByL q∧Zuu q:=by
 obtain⟨cs,rfl,hsz⟩:=okWide_struct Tryz.underlying25 hv
 obtain⟨fuel,hf⟩:=h
 have hcs:(Value.agg cs).cells=cs:=rfl
 rw[hcs] at hf
 obtain⟨q,h1,h2,h3⟩:=Zrx fuel cs.toList _ hf
 exact⟨q,cs.toList,by simp,h1,h2,h3⟩
theorem Zwz {r:Reach} {b0:Nat} {v:Value} {d:DataW H} {p:List MemPlace} (hv:Value.okWide Tryz.prog W r b0 23 v) (h:DataW.Trod enc Tryz.prog W 0 (fun _=>true) true 23 v d p) :
  ∃ (l:List Prd) (ao:Option Addr) (n c:Nat),v = .slice ao n c∧n=l.length∧n≤9223372036854775807∧Zbj W (fun g=>g<W.heap.size) l ao∧(∀ p∈l,ByL p)∧(∀ p∈l,Zuu p):=by
 obtain⟨a0,len,cap,rfl⟩:=okWide_slice Tryz.underlying23 hv
 obtain⟨fuel,hf⟩:=h
 obtain⟨ao,n,c,e4,hmc,hcm,hel⟩:=Zmo Tryz.underlying23 cP (by decide) (show DataW.trod enc Tryz.prog W 0 (fun _=>true) true fuel 23 [.slice a0 len cap]=some (d,p) from hf)
 have hlen:n≤9223372036854775807:=Nat.le_trans hmc (Nat.le_trans hcm (by decide))
 rcases hel with h0 | ⟨g,off,n',h1,h2,h3,h4⟩
 ·exact⟨[],ao,n,c,e4,h0,hlen,.inl rfl,by simp,by simp⟩
 ·obtain⟨ks,hkl,hk⟩:=Zrr (α:=Prd) n (fun i p=>(∃ vs,Zai W (fun g=>g<W.heap.size) p vs∧Za3 W g (off+i*5) vs)∧ByL p∧Zuu p) (fun i hi=>by
   obtain⟨cs,y,h5,h6,h7⟩:=h4 i hi
   obtain⟨p,hp1,hp2,hp3⟩:=Zrx n' cs y h7
   exact⟨p,⟨cs,hp1,h6⟩,hp2,hp3⟩)
  refine⟨ks,ao,n,c,e4,hkl.symm,hlen,.inr ⟨g,off,h1,h2,h2,Zpm ks g off (fun i p hp=>(hk i p hp).1)⟩,fun q hq=>?_,fun q hq=>?_⟩
  ·obtain⟨i,hi⟩:=List.mem_iff_getElem?.1 hq
   exact (hk i q hi).2.1
  ·obtain⟨i,hi⟩:=List.mem_iff_getElem?.1 hq
   exact (hk i q hi).2.2
end
end Go.Proofs.YtmkdfbelbcocpaaGreatDoor
