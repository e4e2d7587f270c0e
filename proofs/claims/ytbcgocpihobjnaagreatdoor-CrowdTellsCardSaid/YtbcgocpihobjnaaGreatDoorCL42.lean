import Derived.Test.YtbcgocpihobjnaaGreatDoorCL41
import Derived.Test.YtbcgocpihobjnaaGreatDoorCL40
import Derived.Test.YtbcgocpihobjnaaGreatDoorCL38
import Derived.Test.YtbcgocpihobjnaaGreatDoorCL33
import Derived.Test.YtbcgocpihobjnaaGreatDoorCL35
import Derived.Test.YtbcgocpihobjnaaGreatDoorCL23
import Derived.Test.YtbcgocpihobjnaaGreatDoorCL11
import Derived.Test.YtbcgocpihobjnaaGreatDoorCL34
import Derived.Test.YtbcgocpihobjnaaGreatDoorCL36
set_option linter.all false
set_option maxHeartbeats 32000000
set_option maxRecDepth 100000
namespace Go.Proofs.YtbcgocpihobjnaaGreatDoor
section
open Go Go.ChangeShapes Go.WideShapes Go.ChangeAt Go.WideMaps Go.WideElems Go.RowKit
theorem Z5m:Tryz.prog.cellsOf 44=3:=by kernel_rfl
theorem Z4o:Tryz.prog.cellsOf 39=4:=by kernel_rfl
theorem cLP:Tryz.prog.cellsOf 22=1:=by kernel_rfl
theorem cLB:Tryz.prog.cellsOf 42=1:=by kernel_rfl
theorem cLI:Tryz.prog.cellsOf 33=1:=by kernel_rfl
theorem cLM:Tryz.prog.cellsOf 23=1:=by kernel_rfl
theorem cLS:Tryz.prog.cellsOf 24=1:=by kernel_rfl
instance:Inhabited Use:=⟨⟨0,0,0,0⟩⟩
instance:Inhabited Wsh:=⟨⟨0,0⟩⟩
instance:Inhabited Mem:=⟨⟨[],[],0⟩⟩
section
variable {H:Type} {enc:TypeId×Value->H} {W:World}
theorem Zx7{fuel:Nat}{v:Value}{y:DataW H×List MemPlace}(h:DataW.trod enc Tryz.prog W 0 (fun _=>true) true fuel 33 [v]=some y) :
  ∃ (l:List Int) (ao:Option Addr) (n c:Nat),v = .slice ao n c/\n=l.length/\n<=c/\n<=9223372036854775807/\aY aZ W ao l:=by
 obtain⟨ao,n,c,e4,dX,kX,nN⟩:=Sx Tryz.underlying33 cI (by decide) h;have aQ:n<=9223372036854775807:=dQ dX (dQ kX (by decide));rcases nN with h0 | ⟨g,off,n',h1,h2,h3,h4⟩
 ·exact⟨[],ao,n,c,e4,h0,dX,aQ,.inl rfl⟩
 ·obtain⟨l,hl,hk⟩:=Sw (α:=Int) n (fun i x=>W.cell? ⟨g,off+i,none⟩=some (.int .i64 x)) (fun i hi=>by
   obtain⟨cs,y,h5,h6,h7⟩:=h4 i hi
   match cs,h5 with
   | [c0],_ =>
    obtain⟨k,e0,-,-⟩:=DataW.trod_int Tryz.underlying3 h7;simp only[List.cons.injEq,and_true] at e0;subst e0;have:=h6 0 _ rfl;rw[Nat.mul_one,Nat.add_zero] at this
    exact⟨k,this⟩)
  refine⟨l,ao,n,c,e4,hl.symm,dX,aQ,.inr ⟨g,off,h1,h2,fun j u hj=>?_⟩⟩;rw[<- Nv,ivs,dK] at hj;obtain⟨x,hx,rfl⟩:=Option.map_eq_some_iff.1 hj;exact hk j x hx
theorem Zx8{fuel:Nat}{v:Value}{y:DataW H×List MemPlace}(h:DataW.trod enc Tryz.prog W 0 (fun _=>true) true fuel 22 [v]=some y) :
  ∃ (l:List Prd) (ao:Option Addr) (n c:Nat),v = .slice ao n c/\n=l.length/\n<=c/\n<=9223372036854775807/\tK W (fun _=>True) l ao/\(∀ p∈l,ByL p)/\(∀ p∈l,vO p):=by
 obtain⟨ao,n,c,e4,dX,kX,nN⟩:=Sx Tryz.underlying22 cP (by decide) h;have aQ:n<=9223372036854775807:=dQ dX (dQ kX (by decide));rcases nN with h0 | ⟨g,off,n',h1,h2,h3,h4⟩
 ·exact⟨[],ao,n,c,e4,h0,dX,aQ,.inl rfl,by simp,by simp⟩
 ·obtain⟨ks,iQ,hk⟩:=Sw (α:=Prd) n (fun i p=>(∃ vs,cK W (fun g=>g<W.heap.size) p vs/\dD W g (off+i*5) vs)/\ByL p/\vO p) (fun i hi=>by
   obtain⟨cs,y,h5,h6,h7⟩:=h4 i hi;obtain⟨p,Tt,ww,xd⟩:=Zxg n' cs y h7
   exact⟨p,⟨cs,Tt,h6⟩,ww,xd⟩)
  have Gt:tK W (fun g=>g<W.heap.size) ks ao:=.inr ⟨g,off,h1,h2,h2,EJ ks g off (fun i p hp=>(hk i p hp).1)⟩;refine⟨ks,ao,n,c,e4,iQ.symm,dX,aQ,Gt.mono (fun _ _ _=>trivial),fun q hq=>?_,fun q hq=>?_⟩
  ·obtain⟨i,hi⟩:=pV.1 hq
   exact(hk i q hi).2.1
  ·obtain⟨i,hi⟩:=pV.1 hq
   exact(hk i q hi).2.2
theorem Zx9{fuel:Nat}{v:Value}{y:DataW H×List MemPlace}(h:DataW.trod enc Tryz.prog W 0 (fun _=>true) true fuel 42 [v]=some y) :
  ∃ (l:List Bnd) (ao:Option Addr) (n c:Nat),v = .slice ao n c/\n=l.length/\n<=c/\n<=9223372036854775807/\(∀ b∈l,NmL b.n)/\aY Nu W ao l:=by
 obtain⟨ao,n,c,e4,dX,kX,nN⟩:=Sx Tryz.underlying42 cB (by decide) h;have aQ:n<=9223372036854775807:=dQ dX (dQ kX (by decide));rcases nN with h0 | ⟨g,off,n',h1,h2,h3,h4⟩
 ·exact⟨[],ao,n,c,e4,h0,dX,aQ,by simp,.inl rfl⟩
 ·obtain⟨l,hl,hk⟩:=Sw (α:=Bnd) n (fun i b=>(NmL b.n)/\dD W g (off+i*2) (Nu b)) (fun i hi=>by
   obtain⟨cs,y,h5,h6,h7⟩:=h4 i hi;obtain⟨xs,n2,hn,-,hl,tV,hf⟩:=DataW.trod_struct Tryz.underlying164 h7
   match cs,h5 with
   | [c0,c1],_ =>
    match xs,tV with
    | [y0,y1],_ =>
     have f0:DataW.trod enc Tryz.prog W 0 (fun _=>true) true n2 9 (([c0,c1]:List Value).drop 0 |>.take (Tryz.prog.cellsOf 9))=some y0:=hf 0 _ rfl;have f1:DataW.trod enc Tryz.prog W 0 (fun _=>true) true n2 3 (([c0,c1]:List Value).drop 1 |>.take (Tryz.prog.cellsOf 3))=some y1:=hf 1 _ rfl;rw[cS] at f0;rw[cI] at f1;obtain⟨s0,e0,-,z0⟩:=DataW.trod_string Tryz.underlying9 (show DataW.trod enc Tryz.prog W 0 (fun _=>true) true n2 9 [c0]=some y0 from f0);obtain⟨k1,e1,-,-⟩:=DataW.trod_int Tryz.underlying3 (show DataW.trod enc Tryz.prog W 0 (fun _=>true) true n2 3 [c1]=some y1 from f1);simp only[List.cons.injEq,and_true] at e0 e1;subst e0 e1;obtain⟨l0,rfl,b0,g0⟩:=EI s0
     exact⟨⟨l0,k1⟩,⟨b0,by rw[g0];exact dQ z0 (by decide)⟩,h6⟩)
  refine⟨l,ao,n,c,e4,hl.symm,dX,aQ,fun b hb=>?_,.inr ⟨g,off,h1,h2,fun j u hj=>?_⟩⟩
  ·obtain⟨i,hi⟩:=pV.1 hb
   exact(hk i b hi).1
  ·have pF:=(fD.1 hj).1
   rw[Fi Nu 2 DR] at pF
   have hi:j/2<l.length:=by omega
   have hb:=aL hi
   have bh:j=j/2*2+j%2:=by omega
   have h9:=(hk (j/2) _ hb).2 (j%2) u (by
    rw[<- Ho Nu 2 DR l (j/2) (j%2) _ hb (Nat.mod_lt _ (by decide)),<- bh];exact hj)
   rwa [Nat.add_assoc,<- bh] at h9
theorem Zya{fuel:Nat}{v:Value}{y:DataW H×List MemPlace}(h:DataW.trod enc Tryz.prog W 0 (fun _=>true) true fuel 24 [v]=some y) :
  ∃ (l:List Use) (ao:Option Addr) (n c:Nat),v = .slice ao n c/\n=l.length/\n<=c/\n<=9223372036854775807/\(∀ b∈l,True)/\aY cQ W ao l:=by
 obtain⟨ao,n,c,e4,dX,kX,nN⟩:=Sx Tryz.underlying24 Z4o (by decide) h;have aQ:n<=9223372036854775807:=dQ dX (dQ kX (by decide));rcases nN with h0 | ⟨g,off,n',h1,h2,h3,h4⟩
 ·exact⟨[],ao,n,c,e4,h0,dX,aQ,by simp,.inl rfl⟩
 ·obtain⟨l,hl,hk⟩:=Sw (α:=Use) n (fun i b=>(True)/\dD W g (off+i*4) (cQ b)) (fun i hi=>by
   obtain⟨cs,y,h5,h6,h7⟩:=h4 i hi;obtain⟨xs,n2,hn,-,hl,tV,hf⟩:=DataW.trod_struct Tryz.underlying39 h7
   match cs,h5 with
   | [c0,c1,c2,c3],_ =>
    match xs,tV with
    | [y0,y1,y2,y3],_ =>
     have f0:DataW.trod enc Tryz.prog W 0 (fun _=>true) true n2 3 (([c0,c1,c2,c3]:List Value).drop 0 |>.take (Tryz.prog.cellsOf 3))=some y0:=hf 0 _ rfl;have f1:DataW.trod enc Tryz.prog W 0 (fun _=>true) true n2 3 (([c0,c1,c2,c3]:List Value).drop 1 |>.take (Tryz.prog.cellsOf 3))=some y1:=hf 1 _ rfl;have f2:DataW.trod enc Tryz.prog W 0 (fun _=>true) true n2 3 (([c0,c1,c2,c3]:List Value).drop 2 |>.take (Tryz.prog.cellsOf 3))=some y2:=hf 2 _ rfl;have f3:DataW.trod enc Tryz.prog W 0 (fun _=>true) true n2 3 (([c0,c1,c2,c3]:List Value).drop 3 |>.take (Tryz.prog.cellsOf 3))=some y3:=hf 3 _ rfl;rw[cI] at f0;rw[cI] at f1;rw[cI] at f2;rw[cI] at f3;obtain⟨k0,e0,-,-⟩:=DataW.trod_int Tryz.underlying3 (show DataW.trod enc Tryz.prog W 0 (fun _=>true) true n2 3 [c0]=some y0 from f0);obtain⟨k1,e1,-,-⟩:=DataW.trod_int Tryz.underlying3 (show DataW.trod enc Tryz.prog W 0 (fun _=>true) true n2 3 [c1]=some y1 from f1);obtain⟨k2,e2,-,-⟩:=DataW.trod_int Tryz.underlying3 (show DataW.trod enc Tryz.prog W 0 (fun _=>true) true n2 3 [c2]=some y2 from f2);obtain⟨k3,e3,-,-⟩:=DataW.trod_int Tryz.underlying3 (show DataW.trod enc Tryz.prog W 0 (fun _=>true) true n2 3 [c3]=some y3 from f3);simp only[List.cons.injEq,and_true] at e0 e1 e2 e3;subst e0 e1 e2 e3
     exact⟨⟨k0,k1,k2,k3⟩,trivial,h6⟩)
  refine⟨l,ao,n,c,e4,hl.symm,dX,aQ,fun b hb=>?_,.inr ⟨g,off,h1,h2,fun j u hj=>?_⟩⟩
  ·obtain⟨i,hi⟩:=pV.1 hb
   exact(hk i b hi).1
  ·have pF:=(fD.1 hj).1
   rw[Fi cQ 4 mN] at pF
   have hi:j/4<l.length:=by omega
   have hb:=aL hi
   have bh:j=j/4*4+j%4:=by omega
   have h9:=(hk (j/4) _ hb).2 (j%4) u (by
    rw[<- Ho cQ 4 mN l (j/4) (j%4) _ hb (Nat.mod_lt _ (by decide)),<- bh];exact hj)
   rwa [Nat.add_assoc,<- bh] at h9
theorem Zyb{fuel:Nat}{v:Value}{y:DataW H×List MemPlace}(h:DataW.trod enc Tryz.prog W 0 (fun _=>true) true fuel 23 [v]=some y) :
  ∃ (l:List Mem) (ao:Option Addr) (n c:Nat),v = .slice ao n c/\n=l.length/\n<=c/\n<=9223372036854775807/\(∀ m∈l,(∀ b∈m.b,NmL b.n)/\m.b.length<=9223372036854775807/\m.t.length<=9223372036854775807)/\uA W l ao:=by
 obtain⟨ao,n,c,e4,dX,kX,nN⟩:=Sx Tryz.underlying23 Z5m (by decide) h;have aQ:n<=9223372036854775807:=dQ dX (dQ kX (by decide));rcases nN with h0 | ⟨g,off,n',h1,h2,h3,h4⟩
 ·exact⟨[],ao,n,c,e4,h0,dX,aQ,by simp,.inl rfl⟩
 ·obtain⟨l,hl,hk⟩:=Sw (α:=Mem) n (fun i m=>((∀ b∈m.b,NmL b.n)/\m.b.length<=9223372036854775807/\m.t.length<=9223372036854775807)/\∃ cs,Bc W m cs/\dD W g (off+i*3) cs) (fun i hi=>by
   obtain⟨cs,y,h5,h6,h7⟩:=h4 i hi;obtain⟨xs,n2,hn,-,hl,tV,hf⟩:=DataW.trod_struct Tryz.underlying44 h7
   match cs,h5 with
   | [c0,c1,c2],_ =>
    match xs,tV with
    | [y0,y1,y2],_ =>
     have f0:DataW.trod enc Tryz.prog W 0 (fun _=>true) true n2 42 (([c0,c1,c2]:List Value).drop 0 |>.take (Tryz.prog.cellsOf 42))=some y0:=hf 0 _ rfl;have f1:DataW.trod enc Tryz.prog W 0 (fun _=>true) true n2 33 (([c0,c1,c2]:List Value).drop 1 |>.take (Tryz.prog.cellsOf 33))=some y1:=hf 1 _ rfl;have f2:DataW.trod enc Tryz.prog W 0 (fun _=>true) true n2 3 (([c0,c1,c2]:List Value).drop 2 |>.take (Tryz.prog.cellsOf 3))=some y2:=hf 2 _ rfl;rw[cLB] at f0;rw[cLI] at f1;rw[cI] at f2;obtain⟨bl,bo,bn,bc,e0,kO,fH,lL,aK,AK⟩:=Zx9 (show DataW.trod enc Tryz.prog W 0 (fun _=>true) true n2 42 [c0]=some y0 from f0);obtain⟨tl,ta,tn,tc,e1,vX,ht2,wu,V8⟩:=Zx7 (show DataW.trod enc Tryz.prog W 0 (fun _=>true) true n2 33 [c1]=some y1 from f1);obtain⟨k,e2,-,-⟩:=DataW.trod_int Tryz.underlying3 (show DataW.trod enc Tryz.prog W 0 (fun _=>true) true n2 3 [c2]=some y2 from f2);simp only[List.cons.injEq,and_true] at e2;subst e0 e1 e2 kO vX;refine⟨⟨bl,tl,k⟩,⟨aK,lL,wu⟩,_,⟨bo,bc,ta,tc,rfl,?_,V8⟩,h6⟩;rcases AK with AK | ⟨g5,o5,q1,q2,q3⟩
     ·exact .inl AK
     ·exact .inr ⟨g5,o5,q1,trivial,q2,q3⟩)
  refine⟨l,ao,n,c,e4,hl.symm,dX,aQ,fun m hm=>?_,.inr ⟨g,off,h1,h2,fun i m hm=>(hk i m hm).2⟩⟩;obtain⟨i,hi⟩:=pV.1 hm;exact(hk i m hi).1
theorem Z0z{r:Reach}{b0:Nat}{v:Value}{d:DataW H}{p:List MemPlace}(hv:Value.okWide Tryz.prog W r b0 26 v)(h:DataW.Trod enc Tryz.prog W 0 (fun _=>true) true 26 v d p) :
  ∃ (c:Crw) (cs:List Value),v = .agg cs.toArray/\mO W c cs/\LenC c/\(∀ p∈c.qs,ByL p)/\(∀ m∈c.ms,∀ b∈m.b,NmL b.n):=by
 obtain⟨cs,rfl,iK⟩:=okWide_struct Tryz.underlying26 hv;obtain⟨fuel,hf⟩:=h;have lP:(Value.agg cs).cells=cs:=rfl;rw[lP] at hf;obtain⟨xs,n2,hn,-,hl,tV,hf⟩:=DataW.trod_struct Tryz.underlying26 hf
 have xS:cs.toList.length=3:=by rw[hl];kernel_rfl
 obtain⟨l0⟩:=cs
 match l0,xS with
 | [c0,c1,c2],_ =>
  match xs,tV with
  | [y0,y1,y2],_ =>
   have f0:DataW.trod enc Tryz.prog W 0 (fun _=>true) true n2 22 (([c0,c1,c2]:List Value).drop 0 |>.take (Tryz.prog.cellsOf 22))=some y0:=hf 0 _ rfl;have f1:DataW.trod enc Tryz.prog W 0 (fun _=>true) true n2 23 (([c0,c1,c2]:List Value).drop 1 |>.take (Tryz.prog.cellsOf 23))=some y1:=hf 1 _ rfl;have f2:DataW.trod enc Tryz.prog W 0 (fun _=>true) true n2 24 (([c0,c1,c2]:List Value).drop 2 |>.take (Tryz.prog.cellsOf 24))=some y2:=hf 2 _ rfl;rw[cLP] at f0;rw[cLM] at f1;rw[cLS] at f2;obtain⟨ql,qo,qn,qc,e0,kL,qU,Lp,Y0,kd,Bw⟩:=Zx8 (show DataW.trod enc Tryz.prog W 0 (fun _=>true) true n2 22 [c0]=some y0 from f0);obtain⟨ml,mo,mn,mc,e1,yR,kN,Gn,Gx,Y8⟩:=Zyb (show DataW.trod enc Tryz.prog W 0 (fun _=>true) true n2 23 [c1]=some y1 from f1);obtain⟨ul,uo,un,uc,e2,Y9,Ms,Z1,-,Z3⟩:=Zya (show DataW.trod enc Tryz.prog W 0 (fun _=>true) true n2 24 [c2]=some y2 from f2);subst e0 e1 e2 kL yR Y9;exact⟨⟨ql,ml,ul⟩,_,rfl,⟨qo,qc,mo,mc,uo,uc,rfl,Y0,Y8,Z3,Ms⟩,⟨Bw,fun m hm=>(Gx m hm).2,Lp,Gn,Z1⟩,kd,fun m hm=>(Gx m hm).1⟩
end
theorem Z2r{c:Crw}(hf:Tk c=true)(hL:LenC c)(hb:∀ p∈c.qs,ByL p)(hm:∀ m∈c.ms,∀ b∈m.b,NmL b.n):CrwOk c/\c.us.length<=999/\c.ms.length<=65/\c.qs.length<=129:=by
 unfold Tk at hf;simp only[dB,List.all_eq_true] at hf;obtain⟨⟨h1,h2⟩,h3⟩:=hf;unfold gT at h1;simp only[dB,Bool.or_eq_true,decide_eq_true_eq] at h1;refine⟨⟨fun p hp=>⟨hb p hp,?_⟩,fun m qG=>⟨hm m qG,?_,?_⟩,by omega,by omega,by omega⟩,by omega,by omega,by omega⟩
 ·have:=VJ (h2 p hp);omega
 ·have:=h3 m qG
  unfold Bi at this;simp only[dB,decide_eq_true_eq] at this;omega
 ·have:=h3 m qG
  unfold Bi at this;simp only[dB,decide_eq_true_eq] at this;omega
end
section
open Go Go.ChangeShapes Go.WideShapes Go.ChangeAt Go.WideMaps Go.WideElems Go.RowKit
section
variable {H:Type} {enc:TypeId×Value->H} {W:World}
theorem Z00{fuel:Nat}{cs:List Value}{y:DataW H×List MemPlace}(hl:cs.length=4)(h:DataW.trod enc Tryz.prog W 0 (fun _=>true) true fuel 39 cs=some y):∃ x:Use,cs=cQ x:=by
 obtain⟨xs,n2,hn,-,aU,tV,hf⟩:=DataW.trod_struct Tryz.underlying39 h
 match cs,hl with
 | [c0,c1,c2,c3],_ =>
  match xs,tV with
  | [y0,y1,y2,y3],_ =>
   have f0:DataW.trod enc Tryz.prog W 0 (fun _=>true) true n2 3 (([c0,c1,c2,c3]:List Value).drop 0 |>.take (Tryz.prog.cellsOf 3))=some y0:=hf 0 _ rfl;have f1:DataW.trod enc Tryz.prog W 0 (fun _=>true) true n2 3 (([c0,c1,c2,c3]:List Value).drop 1 |>.take (Tryz.prog.cellsOf 3))=some y1:=hf 1 _ rfl;have f2:DataW.trod enc Tryz.prog W 0 (fun _=>true) true n2 3 (([c0,c1,c2,c3]:List Value).drop 2 |>.take (Tryz.prog.cellsOf 3))=some y2:=hf 2 _ rfl;have f3:DataW.trod enc Tryz.prog W 0 (fun _=>true) true n2 3 (([c0,c1,c2,c3]:List Value).drop 3 |>.take (Tryz.prog.cellsOf 3))=some y3:=hf 3 _ rfl;rw[cI] at f0 f1 f2 f3;obtain⟨k0,e0,-,-⟩:=DataW.trod_int Tryz.underlying3 (show DataW.trod enc Tryz.prog W 0 (fun _=>true) true n2 3 [c0]=some y0 from f0);obtain⟨k1,e1,-,-⟩:=DataW.trod_int Tryz.underlying3 (show DataW.trod enc Tryz.prog W 0 (fun _=>true) true n2 3 [c1]=some y1 from f1);obtain⟨k2,e2,-,-⟩:=DataW.trod_int Tryz.underlying3 (show DataW.trod enc Tryz.prog W 0 (fun _=>true) true n2 3 [c2]=some y2 from f2);obtain⟨k3,e3,-,-⟩:=DataW.trod_int Tryz.underlying3 (show DataW.trod enc Tryz.prog W 0 (fun _=>true) true n2 3 [c3]=some y3 from f3);simp only[List.cons.injEq,and_true] at e0 e1 e2 e3;subst e0 e1 e2 e3;exact⟨⟨k0,k1,k2,k3⟩,rfl⟩
theorem Z01{r:Reach}{b0:Nat}{v:Value}{d:DataW H}{p:List MemPlace}(hv:Value.okWide Tryz.prog W r b0 39 v)(h:DataW.Trod enc Tryz.prog W 0 (fun _=>true) true 39 v d p) :
  ∃ (x:Use),v = .agg (cQ x).toArray:=by
 obtain⟨cs,rfl,iK⟩:=okWide_struct Tryz.underlying39 hv;obtain⟨fuel,hf⟩:=h;have lP:(Value.agg cs).cells=cs:=rfl;rw[lP] at hf
 have hl:cs.toList.length=4:=by
  obtain⟨xs,n2,hn,-,hl,tV,-⟩:=DataW.trod_struct Tryz.underlying39 hf;rw[hl];kernel_rfl
 obtain⟨x,hx⟩:=Z00 hl hf;exact⟨x,by rw[<- hx]⟩
end
end
section
open Go.RowKit Go.Sort Go.Maps
theorem Zqt(i:Nat)(h:qN 8 i):i=0\/i=1\/i=2\/i=3\/i=4\/i=5\/i=6\/i=7\/i=9:=by unfold qN at h;omega
end
section
open Go.RowKit Go.Sort Go.Maps
theorem Tl{w:World}{c:Crw}{cs:List Value}(h:mO w c cs):∃ qo qc mo mc uo uc,cs=[.slice qo c.qs.length qc,.slice mo c.ms.length mc,.slice uo c.us.length uc]/\uA w c.ms mo/\aY cQ w uo c.us:=by
 obtain⟨qo,qc,mo,mc,uo,uc,h1,h2,h3,h4,-⟩:=h;exact⟨qo,qc,mo,mc,uo,uc,h1,h3,h4⟩
theorem FT(w:World)(m:Mem)(cs:List Value)(hm:Bc w m cs)(k:Nat)(hk:k<=1000000)(hl:m.t.length<=1000000000) :
  Calls Tryz.prog 129 #[.agg cs.toArray,.int .i64 k] w fun e w'=>e = .returned (.int .i64 (eI m.t k))/\Below w.heap.size w w':=by
 obtain⟨bo,bc,to',tc,rfl,-,ht⟩:=hm;have HT:=I ht;unfold eI;have bx:=bwA w (.cells #[.slice bo m.b.length bc,.slice to' m.t.length tc,.int .i64 m.r] 44);have B1:=I bx;have X1:=hnw w 44 [.slice bo m.b.length bc,.slice to' m.t.length tc,.int .i64 m.r];have H1:=I (HT.o.below bx);clear bx ht HT;generalize m.b.length=nb at *;generalize m.r=mr at *;generalize m.t=tl at *
 go_enter Tryz.func129,Tryz.ntmps129
 go_upto_region 1 with(fail)
 generalize w.alloc (.cells #[.slice bo nb bc,.slice to' tl.length tc,.int .i64 mr] 44)=w1 at *;have x1:=X1.o.cell 1 _ rfl;by_cases aE:k<tl.length
 ·have kk:(k:Int)<(tl.length:Nat):=by omega
  obtain⟨g,off,bI,hg,hc⟩:=H1.o.at jN k tl[k] (aL aE);have c0:=hc 0 _ rfl;rw[Nat.mul_one,Nat.add_zero] at c0;have HV:Hid (tl.getD k 0=tl[k]):=I (by rw[bR,aL aE];rfl);generalize tl[k]=tk at *;generalize tl.length=tn at *;clear hc hg;subst bI
  go_wp2_with fail
  go_ret;exact⟨mI HV.o.symm,B1.o⟩
 ·have kk:¬ (k:Int)<(tl.length:Nat):=by omega
  have HV:Hid (tl.getD k 0=0):=I (by rw[bR,List.getElem?_eq_none (by omega)];rfl);generalize tl.length=tn at *
  go_wp2_with fail
  go_ret;exact⟨mI HV.o.symm,B1.o⟩
end
section
open Go.RowKit Go.Sort Go.Maps
theorem pz(l:List Int):l.flatMap aZ=l.map (Value.int .i64):=(Nv l).symm
theorem OwnK.intAt{w:World}{B n cap g off:Nat}{l:List Int}(h:OwnK w B 1 n cap (l.flatMap aZ) (some ⟨g,off,none⟩)){i:Nat}{x:Int}(hx:l[i]?=some x):w.cell? ⟨g,off+i,none⟩=some (.int .i64 x)/\w.frozen? ⟨g,off+i,none⟩=false/\B<=g:=by
 obtain⟨h1,-,h2,h3⟩:=h.reads;have h4:=h.count;have h6:=h.len_le.1;have hi:=(fD.1 hx).1;rw[pz] at h1 h4;rw[eB] at h4;exact⟨h1 i _ (by rw[dK,hx];rfl),h3 i (by omega),h2⟩
theorem OwnK.intSet{w:World}{B n cap g off:Nat}{l:List Int}(h:OwnK w B 1 n cap (l.flatMap aZ) (some ⟨g,off,none⟩)){i:Nat}(hi:i<l.length)(x:Int):OwnK (w.setCell ⟨g,off+i,none⟩ (.int .i64 x)) B 1 n cap ((l.set i x).flatMap aZ) (some ⟨g,off,none⟩):=by
 have h1:=h.setAt i (by rw[pz,eB];exact hi) (.int .i64 x);rw[pz,<- List.map_set] at h1;rw[pz];exact h1
end
section
open Go.RowKit Go.Sort Go.Maps
theorem Z02 {ops:Array Oper} {rest:List Oper} {o:Oper} {a:Act} {Q:Exit->Act->World->Prop} (T E:TypeId) (z:Value) (k bt:Nat)
  (hT:Tryz.prog.underlying T=some (.slice E)) (hE:(Tryz.prog.info? E).map (fun i=>(i.zero,i.size,i.bytes))=some (some z,k,bt)) (hz:z.cells.size=k) (hk:0<k) (mW:bt<=1000)
  (w:World) (B:Nat) (hg:o.guard=none) (s x:Operand) (jP:o.op=Op.call { callee:=Callee.builtin Builtin.append,args:=#[s,x],argTypes:=#[T,T] })
  (ao:Option Addr) (cap n:Nat) (xs:List Value) (hs:a.eval s = .slice ao n cap) (hO:OwnK w B k n cap xs ao) (hB:B<=w.heap.size)
  (A m c:Nat) (cs:List Value) (te:TypeId) (hx:a.eval x = .slice (some ⟨A,0,none⟩) m c) (hA:aC w A te cs) (hm:cs.length=m*k) (cN:0<m) (h1c:∀ u∈cs,u.oneCell'=true)
  (b1:n+m<=1000000000)
  (hK:∀ g off cap' w',OwnK w' B k (n+m) cap' (xs++cs) (some ⟨g,off,none⟩)->w.grownBy w' (blk ao)->wpList Tryz.prog ops Q rest (a.put o.dst (.slice (some ⟨g,off,none⟩) (n+m) cap')) w') :
  wpList Tryz.prog ops Q (o::rest) a w:=by
 obtain⟨i0,hi,Cn,nP,pH⟩:=eq hE;refine FU w B k hk hg s x T jP E i0 z bt hT hi Cn nP pH hz ao cap xs n hs hO hB ⟨A,0,none⟩ m c cs hx hm cN (fun j u hj=>hA.addr j u hj) h1c (by simp only[maxLen];omega) (dQ (Nat.mul_le_mul b1 mW) (by decide)) ?_;intro g off cap' w' ho mE _;exact hK g off cap' w' ho mE
end
end Go.Proofs.YtbcgocpihobjnaaGreatDoor
