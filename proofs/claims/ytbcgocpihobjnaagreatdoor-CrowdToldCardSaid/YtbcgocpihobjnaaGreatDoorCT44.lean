import Derived.Test.YtbcgocpihobjnaaGreatDoorCT43
import Derived.Test.YtbcgocpihobjnaaGreatDoorCT40
import Derived.Test.YtbcgocpihobjnaaGreatDoorCT38
import Derived.Test.YtbcgocpihobjnaaGreatDoorCT34
import Derived.Test.YtbcgocpihobjnaaGreatDoorCT37
import Derived.Test.YtbcgocpihobjnaaGreatDoorCT24
import Derived.Test.YtbcgocpihobjnaaGreatDoorCT12
import Derived.Test.YtbcgocpihobjnaaGreatDoorCT41
set_option linter.unusedVariables false
set_option linter.unusedSimpArgs false
set_option maxHeartbeats 32000000
set_option maxRecDepth 100000
namespace Go.Proofs.YtbcgocpihobjnaaGreatDoor
section
open Go Go.ChangeShapes Go.WideShapes Go.ChangeAt Go.WideMaps Go.WideElems Go.RowKit
theorem Z1c:Tryz.prog.cellsOf 44=3:=by kernel_rfl
theorem Z0r:Tryz.prog.cellsOf 39=4:=by kernel_rfl
theorem cLP:Tryz.prog.cellsOf 22=1:=by kernel_rfl
theorem cLB:Tryz.prog.cellsOf 42=1:=by kernel_rfl
theorem cLI:Tryz.prog.cellsOf 33=1:=by kernel_rfl
theorem cLM:Tryz.prog.cellsOf 23=1:=by kernel_rfl
theorem cLS:Tryz.prog.cellsOf 24=1:=by kernel_rfl
instance:Inhabited Use:=⟨⟨0,0,0,0⟩⟩
instance:Inhabited Wsh:=⟨⟨0,0⟩⟩
instance:Inhabited Mem:=⟨⟨[],[],0⟩⟩
section
variable {H:Type} {enc:TypeId×Value→H} {W:World}
theorem Ztz {fuel:Nat} {v:Value} {y:DataW H×List MemPlace} (h:DataW.trod enc Tryz.prog W 0 (fun _=>true) true fuel 33 [v]=some y) :
  ∃ (l:List Int) (ao:Option Addr) (n c:Nat),v = .slice ao n c∧n=l.length∧n≤c∧n≤9223372036854775807∧Zal Zbg W ao l:=by
 obtain⟨ao,n,c,e4,hmc,hcm,hel⟩:=Zcn Tryz.underlying33 cI (by decide) h
 have hlen:n≤9223372036854775807:=Nat.le_trans hmc (Nat.le_trans hcm (by decide))
 rcases hel with h0 | ⟨g,off,n',h1,h2,h3,h4⟩
 ·exact⟨[],ao,n,c,e4,h0,hmc,hlen,.inl rfl⟩
 ·obtain⟨l,hl,hk⟩:=Zd3 (α:=Int) n (fun i x=>W.cell? ⟨g,off+i,none⟩=some (.int .i64 x)) (fun i hi=>by
   obtain⟨cs,y,h5,h6,h7⟩:=h4 i hi
   match cs,h5 with
   | [c0],_ =>
    obtain⟨k,e0,-,-⟩:=DataW.trod_int Tryz.underlying3 h7
    simp only[List.cons.injEq,and_true] at e0
    subst e0
    have:=h6 0 _ rfl
    rw[Nat.mul_one,Nat.add_zero] at this
    exact⟨k,this⟩)
  refine⟨l,ao,n,c,e4,hl.symm,hmc,hlen,.inr ⟨g,off,h1,h2,fun j u hj=>?_⟩⟩
  rw[← Zeb,ivs,List.getElem?_map] at hj
  obtain⟨x,hx,rfl⟩:=Option.map_eq_some_iff.1 hj
  exact hk j x hx
theorem Zt0 {fuel:Nat} {v:Value} {y:DataW H×List MemPlace} (h:DataW.trod enc Tryz.prog W 0 (fun _=>true) true fuel 22 [v]=some y) :
  ∃ (l:List Prd) (ao:Option Addr) (n c:Nat),v = .slice ao n c∧n=l.length∧n≤c∧n≤9223372036854775807∧Zey W (fun _=>True) l ao∧(∀ p∈l,ByL p)∧(∀ p∈l,Zr7 p):=by
 obtain⟨ao,n,c,e4,hmc,hcm,hel⟩:=Zcn Tryz.underlying22 cP (by decide) h
 have hlen:n≤9223372036854775807:=Nat.le_trans hmc (Nat.le_trans hcm (by decide))
 rcases hel with h0 | ⟨g,off,n',h1,h2,h3,h4⟩
 ·exact⟨[],ao,n,c,e4,h0,hmc,hlen,.inl rfl,by simp,by simp⟩
 ·obtain⟨ks,hkl,hk⟩:=Zd3 (α:=Prd) n (fun i p=>(∃ vs,Zam W (fun g=>g<W.heap.size) p vs∧Zaw W g (off+i*5) vs)∧ByL p∧Zr7 p) (fun i hi=>by
   obtain⟨cs,y,h5,h6,h7⟩:=h4 i hi
   obtain⟨p,hp1,hp2,hp3⟩:=Zs8 n' cs y h7
   exact⟨p,⟨cs,hp1,h6⟩,hp2,hp3⟩)
  have hpr:Zey W (fun g=>g<W.heap.size) ks ao:=.inr ⟨g,off,h1,h2,h2,Zj4 ks g off (fun i p hp=>(hk i p hp).1)⟩
  refine⟨ks,ao,n,c,e4,hkl.symm,hmc,hlen,hpr.mono (fun _ _ _=>trivial),fun q hq=>?_,fun q hq=>?_⟩
  ·obtain⟨i,hi⟩:=List.mem_iff_getElem?.1 hq
   exact (hk i q hi).2.1
  ·obtain⟨i,hi⟩:=List.mem_iff_getElem?.1 hq
   exact (hk i q hi).2.2
theorem Zt1 {fuel:Nat} {v:Value} {y:DataW H×List MemPlace} (h:DataW.trod enc Tryz.prog W 0 (fun _=>true) true fuel 42 [v]=some y) :
  ∃ (l:List Bnd) (ao:Option Addr) (n c:Nat),v = .slice ao n c∧n=l.length∧n≤c∧n≤9223372036854775807∧(∀ b∈l,NmL b.n)∧Zal Zxn W ao l:=by
 obtain⟨ao,n,c,e4,hmc,hcm,hel⟩:=Zcn Tryz.underlying42 cB (by decide) h
 have hlen:n≤9223372036854775807:=Nat.le_trans hmc (Nat.le_trans hcm (by decide))
 rcases hel with h0 | ⟨g,off,n',h1,h2,h3,h4⟩
 ·exact⟨[],ao,n,c,e4,h0,hmc,hlen,by simp,.inl rfl⟩
 ·obtain⟨l,hl,hk⟩:=Zd3 (α:=Bnd) n (fun i b=>(NmL b.n)∧Zaw W g (off+i*2) (Zxn b)) (fun i hi=>by
   obtain⟨cs,y,h5,h6,h7⟩:=h4 i hi
   obtain⟨xs,n2,hn,-,hl,hxl,hf⟩:=DataW.trod_struct Tryz.underlying164 h7
   match cs,h5 with
   | [c0,c1],_ =>
    match xs,hxl with
    | [y0,y1],_ =>
     have f0:DataW.trod enc Tryz.prog W 0 (fun _=>true) true n2 9 (([c0,c1]:List Value).drop 0 |>.take (Tryz.prog.cellsOf 9))=some y0:=hf 0 _ rfl
     have f1:DataW.trod enc Tryz.prog W 0 (fun _=>true) true n2 3 (([c0,c1]:List Value).drop 1 |>.take (Tryz.prog.cellsOf 3))=some y1:=hf 1 _ rfl
     rw[cS] at f0
     rw[cI] at f1
     obtain⟨s0,e0,-,z0⟩:=DataW.trod_string Tryz.underlying9 (show DataW.trod enc Tryz.prog W 0 (fun _=>true) true n2 9 [c0]=some y0 from f0)
     obtain⟨k1,e1,-,-⟩:=DataW.trod_int Tryz.underlying3 (show DataW.trod enc Tryz.prog W 0 (fun _=>true) true n2 3 [c1]=some y1 from f1)
     simp only[List.cons.injEq,and_true] at e0 e1
     subst e0 e1
     obtain⟨l0,rfl,b0,g0⟩:=Zec s0
     exact⟨⟨l0,k1⟩,⟨b0,by rw[g0];exact Nat.le_trans z0 (by decide)⟩,h6⟩)
  refine⟨l,ao,n,c,e4,hl.symm,hmc,hlen,fun b hb=>?_,.inr ⟨g,off,h1,h2,fun j u hj=>?_⟩⟩
  ·obtain⟨i,hi⟩:=List.mem_iff_getElem?.1 hb
   exact (hk i b hi).1
  ·have hjl:=(List.getElem?_eq_some_iff.1 hj).1
   rw[Zbv Zxn 2 Zj2] at hjl
   have hi:j/2<l.length:=by omega
   have hb:=List.getElem?_eq_getElem hi
   have hjj:j=j/2*2+j%2:=by omega
   have h9:=(hk (j/2) _ hb).2 (j%2) u (by
    rw[← Zcs Zxn 2 Zj2 l (j/2) (j%2) _ hb (Nat.mod_lt _ (by decide)),← hjj];exact hj)
   rwa [Nat.add_assoc,← hjj] at h9
theorem Zt2 {fuel:Nat} {v:Value} {y:DataW H×List MemPlace} (h:DataW.trod enc Tryz.prog W 0 (fun _=>true) true fuel 24 [v]=some y) :
  ∃ (l:List Use) (ao:Option Addr) (n c:Nat),v = .slice ao n c∧n=l.length∧n≤c∧n≤9223372036854775807∧(∀ b∈l,True)∧Zal Zbn W ao l:=by
 obtain⟨ao,n,c,e4,hmc,hcm,hel⟩:=Zcn Tryz.underlying24 Z0r (by decide) h
 have hlen:n≤9223372036854775807:=Nat.le_trans hmc (Nat.le_trans hcm (by decide))
 rcases hel with h0 | ⟨g,off,n',h1,h2,h3,h4⟩
 ·exact⟨[],ao,n,c,e4,h0,hmc,hlen,by simp,.inl rfl⟩
 ·obtain⟨l,hl,hk⟩:=Zd3 (α:=Use) n (fun i b=>(True)∧Zaw W g (off+i*4) (Zbn b)) (fun i hi=>by
   obtain⟨cs,y,h5,h6,h7⟩:=h4 i hi
   obtain⟨xs,n2,hn,-,hl,hxl,hf⟩:=DataW.trod_struct Tryz.underlying39 h7
   match cs,h5 with
   | [c0,c1,c2,c3],_ =>
    match xs,hxl with
    | [y0,y1,y2,y3],_ =>
     have f0:DataW.trod enc Tryz.prog W 0 (fun _=>true) true n2 3 (([c0,c1,c2,c3]:List Value).drop 0 |>.take (Tryz.prog.cellsOf 3))=some y0:=hf 0 _ rfl
     have f1:DataW.trod enc Tryz.prog W 0 (fun _=>true) true n2 3 (([c0,c1,c2,c3]:List Value).drop 1 |>.take (Tryz.prog.cellsOf 3))=some y1:=hf 1 _ rfl
     have f2:DataW.trod enc Tryz.prog W 0 (fun _=>true) true n2 3 (([c0,c1,c2,c3]:List Value).drop 2 |>.take (Tryz.prog.cellsOf 3))=some y2:=hf 2 _ rfl
     have f3:DataW.trod enc Tryz.prog W 0 (fun _=>true) true n2 3 (([c0,c1,c2,c3]:List Value).drop 3 |>.take (Tryz.prog.cellsOf 3))=some y3:=hf 3 _ rfl
     rw[cI] at f0
     rw[cI] at f1
     rw[cI] at f2
     rw[cI] at f3
     obtain⟨k0,e0,-,-⟩:=DataW.trod_int Tryz.underlying3 (show DataW.trod enc Tryz.prog W 0 (fun _=>true) true n2 3 [c0]=some y0 from f0)
     obtain⟨k1,e1,-,-⟩:=DataW.trod_int Tryz.underlying3 (show DataW.trod enc Tryz.prog W 0 (fun _=>true) true n2 3 [c1]=some y1 from f1)
     obtain⟨k2,e2,-,-⟩:=DataW.trod_int Tryz.underlying3 (show DataW.trod enc Tryz.prog W 0 (fun _=>true) true n2 3 [c2]=some y2 from f2)
     obtain⟨k3,e3,-,-⟩:=DataW.trod_int Tryz.underlying3 (show DataW.trod enc Tryz.prog W 0 (fun _=>true) true n2 3 [c3]=some y3 from f3)
     simp only[List.cons.injEq,and_true] at e0 e1 e2 e3
     subst e0 e1 e2 e3
     exact⟨⟨k0,k1,k2,k3⟩,trivial,h6⟩)
  refine⟨l,ao,n,c,e4,hl.symm,hmc,hlen,fun b hb=>?_,.inr ⟨g,off,h1,h2,fun j u hj=>?_⟩⟩
  ·obtain⟨i,hi⟩:=List.mem_iff_getElem?.1 hb
   exact (hk i b hi).1
  ·have hjl:=(List.getElem?_eq_some_iff.1 hj).1
   rw[Zbv Zbn 4 Zbf] at hjl
   have hi:j/4<l.length:=by omega
   have hb:=List.getElem?_eq_getElem hi
   have hjj:j=j/4*4+j%4:=by omega
   have h9:=(hk (j/4) _ hb).2 (j%4) u (by
    rw[← Zcs Zbn 4 Zbf l (j/4) (j%4) _ hb (Nat.mod_lt _ (by decide)),← hjj];exact hj)
   rwa [Nat.add_assoc,← hjj] at h9
theorem Zt3 {fuel:Nat} {v:Value} {y:DataW H×List MemPlace} (h:DataW.trod enc Tryz.prog W 0 (fun _=>true) true fuel 23 [v]=some y) :
  ∃ (l:List Mem) (ao:Option Addr) (n c:Nat),v = .slice ao n c∧n=l.length∧n≤c∧n≤9223372036854775807∧(∀ m∈l,(∀ b∈m.b,NmL b.n)∧m.b.length≤9223372036854775807∧m.t.length≤9223372036854775807)∧Zhx W l ao:=by
 obtain⟨ao,n,c,e4,hmc,hcm,hel⟩:=Zcn Tryz.underlying23 Z1c (by decide) h
 have hlen:n≤9223372036854775807:=Nat.le_trans hmc (Nat.le_trans hcm (by decide))
 rcases hel with h0 | ⟨g,off,n',h1,h2,h3,h4⟩
 ·exact⟨[],ao,n,c,e4,h0,hmc,hlen,by simp,.inl rfl⟩
 ·obtain⟨l,hl,hk⟩:=Zd3 (α:=Mem) n (fun i m=>((∀ b∈m.b,NmL b.n)∧m.b.length≤9223372036854775807∧m.t.length≤9223372036854775807)∧∃ cs,Zsi W m cs∧Zaw W g (off+i*3) cs) (fun i hi=>by
   obtain⟨cs,y,h5,h6,h7⟩:=h4 i hi
   obtain⟨xs,n2,hn,-,hl,hxl,hf⟩:=DataW.trod_struct Tryz.underlying44 h7
   match cs,h5 with
   | [c0,c1,c2],_ =>
    match xs,hxl with
    | [y0,y1,y2],_ =>
     have f0:DataW.trod enc Tryz.prog W 0 (fun _=>true) true n2 42 (([c0,c1,c2]:List Value).drop 0 |>.take (Tryz.prog.cellsOf 42))=some y0:=hf 0 _ rfl
     have f1:DataW.trod enc Tryz.prog W 0 (fun _=>true) true n2 33 (([c0,c1,c2]:List Value).drop 1 |>.take (Tryz.prog.cellsOf 33))=some y1:=hf 1 _ rfl
     have f2:DataW.trod enc Tryz.prog W 0 (fun _=>true) true n2 3 (([c0,c1,c2]:List Value).drop 2 |>.take (Tryz.prog.cellsOf 3))=some y2:=hf 2 _ rfl
     rw[cLB] at f0
     rw[cLI] at f1
     rw[cI] at f2
     obtain⟨bl,bo,bn,bc,e0,hb1,hb2,hb3,hb4,hb5⟩:=Zt1 (show DataW.trod enc Tryz.prog W 0 (fun _=>true) true n2 42 [c0]=some y0 from f0)
     obtain⟨tl,ta,tn,tc,e1,ht1,ht2,ht3,ht4⟩:=Ztz (show DataW.trod enc Tryz.prog W 0 (fun _=>true) true n2 33 [c1]=some y1 from f1)
     obtain⟨k,e2,-,-⟩:=DataW.trod_int Tryz.underlying3 (show DataW.trod enc Tryz.prog W 0 (fun _=>true) true n2 3 [c2]=some y2 from f2)
     simp only[List.cons.injEq,and_true] at e2
     subst e0 e1 e2 hb1 ht1
     refine⟨⟨bl,tl,k⟩,⟨hb4,hb3,ht3⟩,_,⟨bo,bc,ta,tc,rfl,?_,ht4⟩,h6⟩
     rcases hb5 with hb5 | ⟨g5,o5,q1,q2,q3⟩
     ·exact .inl hb5
     ·exact .inr ⟨g5,o5,q1,trivial,q2,q3⟩)
  refine⟨l,ao,n,c,e4,hl.symm,hmc,hlen,fun m hm=>?_,.inr ⟨g,off,h1,h2,fun i m hm=>(hk i m hm).2⟩⟩
  obtain⟨i,hi⟩:=List.mem_iff_getElem?.1 hm
  exact (hk i m hi).1
theorem Zw6 {r:Reach} {b0:Nat} {v:Value} {d:DataW H} {p:List MemPlace} (hv:Value.okWide Tryz.prog W r b0 26 v) (h:DataW.Trod enc Tryz.prog W 0 (fun _=>true) true 26 v d p) :
  ∃ (c:Crw) (cs:List Value),v = .agg cs.toArray∧Zf6 W c cs∧LenC c∧(∀ p∈c.qs,ByL p)∧(∀ m∈c.ms,∀ b∈m.b,NmL b.n):=by
 obtain⟨cs,rfl,hsz⟩:=okWide_struct Tryz.underlying26 hv
 obtain⟨fuel,hf⟩:=h
 have hcs:(Value.agg cs).cells=cs:=rfl
 rw[hcs] at hf
 obtain⟨xs,n2,hn,-,hl,hxl,hf⟩:=DataW.trod_struct Tryz.underlying26 hf
 have hl3:cs.toList.length=3:=by rw[hl];kernel_rfl
 obtain⟨l0⟩:=cs
 match l0,hl3 with
 | [c0,c1,c2],_ =>
  match xs,hxl with
  | [y0,y1,y2],_ =>
   have f0:DataW.trod enc Tryz.prog W 0 (fun _=>true) true n2 22 (([c0,c1,c2]:List Value).drop 0 |>.take (Tryz.prog.cellsOf 22))=some y0:=hf 0 _ rfl
   have f1:DataW.trod enc Tryz.prog W 0 (fun _=>true) true n2 23 (([c0,c1,c2]:List Value).drop 1 |>.take (Tryz.prog.cellsOf 23))=some y1:=hf 1 _ rfl
   have f2:DataW.trod enc Tryz.prog W 0 (fun _=>true) true n2 24 (([c0,c1,c2]:List Value).drop 2 |>.take (Tryz.prog.cellsOf 24))=some y2:=hf 2 _ rfl
   rw[cLP] at f0
   rw[cLM] at f1
   rw[cLS] at f2
   obtain⟨ql,qo,qn,qc,e0,hq1,hq2,hq3,hq4,hq5,hq6⟩:=Zt0 (show DataW.trod enc Tryz.prog W 0 (fun _=>true) true n2 22 [c0]=some y0 from f0)
   obtain⟨ml,mo,mn,mc,e1,hm1,hm2,hm3,hm4,hm5⟩:=Zt3 (show DataW.trod enc Tryz.prog W 0 (fun _=>true) true n2 23 [c1]=some y1 from f1)
   obtain⟨ul,uo,un,uc,e2,hu1,hu2,hu3,-,hu5⟩:=Zt2 (show DataW.trod enc Tryz.prog W 0 (fun _=>true) true n2 24 [c2]=some y2 from f2)
   subst e0 e1 e2 hq1 hm1 hu1
   exact⟨⟨ql,ml,ul⟩,_,rfl,⟨qo,qc,mo,mc,uo,uc,rfl,hq4,hm5,hu5,hu2⟩,⟨hq6,fun m hm=>(hm4 m hm).2,hq3,hm3,hu3⟩,hq5,fun m hm=>(hm4 m hm).1⟩
end
theorem Zy4 {c:Crw} (hf:Zz0 c=true) (hL:LenC c) (hb:∀ p∈c.qs,ByL p) (hm:∀ m∈c.ms,∀ b∈m.b,NmL b.n):CrwOk c∧c.us.length≤999∧c.ms.length≤65∧c.qs.length≤129:=by
 unfold Zz0 at hf
 simp only[Bool.and_eq_true,List.all_eq_true] at hf
 obtain⟨⟨h1,h2⟩,h3⟩:=hf
 unfold Zef at h1
 simp only[Bool.and_eq_true,Bool.or_eq_true,decide_eq_true_eq] at h1
 refine⟨⟨fun p hp=>⟨hb p hp,?_⟩,fun m hmm=>⟨hm m hmm,?_,?_⟩,by omega,by omega,by omega⟩,by omega,by omega,by omega⟩
 ·have:=Zyf (h2 p hp);omega
 ·have:=h3 m hmm
  unfold Zty at this
  simp only[Bool.and_eq_true,decide_eq_true_eq] at this
  omega
 ·have:=h3 m hmm
  unfold Zty at this
  simp only[Bool.and_eq_true,decide_eq_true_eq] at this
  omega
end
section
open Go Go.ChangeShapes Go.WideShapes Go.ChangeAt Go.WideMaps Go.WideElems Go.RowKit
section
variable {H:Type} {enc:TypeId×Value→H} {W:World}
theorem Zw7 {fuel:Nat} {cs:List Value} {y:DataW H×List MemPlace} (hl:cs.length=4) (h:DataW.trod enc Tryz.prog W 0 (fun _=>true) true fuel 39 cs=some y):∃ x:Use,cs=Zbn x:=by
 obtain⟨xs,n2,hn,-,hl2,hxl,hf⟩:=DataW.trod_struct Tryz.underlying39 h
 match cs,hl with
 | [c0,c1,c2,c3],_ =>
  match xs,hxl with
  | [y0,y1,y2,y3],_ =>
   have f0:DataW.trod enc Tryz.prog W 0 (fun _=>true) true n2 3 (([c0,c1,c2,c3]:List Value).drop 0 |>.take (Tryz.prog.cellsOf 3))=some y0:=hf 0 _ rfl
   have f1:DataW.trod enc Tryz.prog W 0 (fun _=>true) true n2 3 (([c0,c1,c2,c3]:List Value).drop 1 |>.take (Tryz.prog.cellsOf 3))=some y1:=hf 1 _ rfl
   have f2:DataW.trod enc Tryz.prog W 0 (fun _=>true) true n2 3 (([c0,c1,c2,c3]:List Value).drop 2 |>.take (Tryz.prog.cellsOf 3))=some y2:=hf 2 _ rfl
   have f3:DataW.trod enc Tryz.prog W 0 (fun _=>true) true n2 3 (([c0,c1,c2,c3]:List Value).drop 3 |>.take (Tryz.prog.cellsOf 3))=some y3:=hf 3 _ rfl
   rw[cI] at f0 f1 f2 f3
   obtain⟨k0,e0,-,-⟩:=DataW.trod_int Tryz.underlying3 (show DataW.trod enc Tryz.prog W 0 (fun _=>true) true n2 3 [c0]=some y0 from f0)
   obtain⟨k1,e1,-,-⟩:=DataW.trod_int Tryz.underlying3 (show DataW.trod enc Tryz.prog W 0 (fun _=>true) true n2 3 [c1]=some y1 from f1)
   obtain⟨k2,e2,-,-⟩:=DataW.trod_int Tryz.underlying3 (show DataW.trod enc Tryz.prog W 0 (fun _=>true) true n2 3 [c2]=some y2 from f2)
   obtain⟨k3,e3,-,-⟩:=DataW.trod_int Tryz.underlying3 (show DataW.trod enc Tryz.prog W 0 (fun _=>true) true n2 3 [c3]=some y3 from f3)
   simp only[List.cons.injEq,and_true] at e0 e1 e2 e3
   subst e0 e1 e2 e3
   exact⟨⟨k0,k1,k2,k3⟩,rfl⟩
theorem Zw8 {r:Reach} {b0:Nat} {v:Value} {d:DataW H} {p:List MemPlace} (hv:Value.okWide Tryz.prog W r b0 39 v) (h:DataW.Trod enc Tryz.prog W 0 (fun _=>true) true 39 v d p) :
  ∃ (x:Use),v = .agg (Zbn x).toArray:=by
 obtain⟨cs,rfl,hsz⟩:=okWide_struct Tryz.underlying39 hv
 obtain⟨fuel,hf⟩:=h
 have hcs:(Value.agg cs).cells=cs:=rfl
 rw[hcs] at hf
 have hl:cs.toList.length=4:=by
  obtain⟨xs,n2,hn,-,hl,hxl,-⟩:=DataW.trod_struct Tryz.underlying39 hf
  rw[hl];kernel_rfl
 obtain⟨x,hx⟩:=Zw7 hl hf
 exact⟨x,by rw[← hx]⟩
end
end
section
open Go.RowKit Go.Sort Go.Maps
def Zw9 (c:Crw) (u m:Int):Tbl:=Zat c (Zbi c (Zau c) u.toNat m.toNat)
def okH (c:Crw) (u m:Int):Bool:=Zei c u m&&Zb6 (Zw9 c u m)
def alH (c:Crw) (u m:Int):List Int:=(Za1 c c.us.length 0 (Zbi c (Zau c) u.toNat m.toNat) []).map Int.ofNat
def isH (c:Crw) (u m:Int):Bool:=Zei c u m&&!Zb6 (Zw9 c u m)
def blH (c:Crw) (u m:Int):List Int:=match Zbh (Zw9 c u m) (Zw9 c u m).U 0 Zgl with
 | .ok _=>[]
 | .error r=>(r.map Int.ofNat).mergeSort leI
theorem Zy5 {c:Crw} (hn:c.us.length≤1000) {u m:Int} (h:okH c u m=true):(alH c u m).length=c.us.length∧Zwj c (alH c u m)=true∧(alH c u m)[u.toNat]?=some m:=by
 unfold okH at h
 rw[Bool.and_eq_true] at h
 obtain⟨hf,hfe⟩:=h
 obtain⟨hv,h1,h2,h3,h4⟩:=Zha hf
 obtain⟨g1,g2,g3⟩:=Zwm hv hn h2 h4 hfe
 refine⟨by unfold alH;rw[List.length_map,g1],g2,?_⟩
 unfold alH
 rw[List.getElem?_map]
 rw[List.getD_eq_getElem?_getD] at g3
 rw[List.getElem?_eq_getElem (by rw[g1];exact h2)] at g3 ⊢
 rw[Option.getD_some] at g3
 rw[g3]
 show some ((m.toNat:Nat):Int)=some m
 rw[Int.toNat_of_nonneg h3]
theorem Zy6 (c:Crw) {u m:Int} (h:Zei c u m=true):isH c u m=!okH c u m:=by
 unfold isH okH
 rw[h,Bool.true_and,Bool.true_and]
theorem Zt4 {c:Crw} {u m:Int} (hv:Zak c=true) (h1:0≤u) (h2:u.toNat<c.us.length) (h3:0≤m) (h4:m.toNat<c.ms.length):Zei c u m=true:=by
 unfold Zei
 rw[hv,Zdr.2 ⟨h1,h2⟩,Zdr.2 ⟨h3,h4⟩];rfl
theorem Zt5 {c:Crw} (hn:c.us.length≤1000) {u:Int} (hv:Zak c=true) (h1:0≤u) (h2:u.toNat<c.us.length) {m:Nat}:m∈Zgd c u↔okH c u (m:Int)=true:=by
 have hok:=Zaq hv hn
 unfold Zgd okH
 rw[hv,Zdr.2 ⟨h1,h2⟩,Bool.true_and,if_pos rfl,Zwl,Bool.and_eq_true]
 constructor
 ·rintro⟨g1,g2⟩
  exact⟨Zt4 hv h1 h2 (by omega) g1,by rw[Zo9 hok h2 g1] at g2;exact g2⟩
 ·rintro⟨g1,g2⟩
  obtain⟨-,-,-,-,g3⟩:=Zha g1
  have g3:m<c.ms.length:=g3
  exact⟨g3,by rw[Zo9 hok h2 g3];exact g2⟩
theorem Zn0 {c:Crw} (hn:c.us.length≤1000) {u m:Int} (h:Zei c u m=true):((Zgd c u).map Int.ofNat).any (fun x=>x==m)=okH c u m:=by
 obtain⟨hv,h1,h2,h3,h4⟩:=Zha h
 rw[Bool.eq_iff_iff,List.any_eq_true]
 constructor
 ·rintro⟨x,hx,hxm⟩
  obtain⟨k,hk,rfl⟩:=List.mem_map.1 hx
  have hxm:((k:Nat):Int)=m:=by simpa using hxm
  rw[← hxm]
  exact (Zt5 hn hv h1 h2).1 hk
 ·intro ho
  refine⟨((m.toNat:Nat):Int),List.mem_map.2 ⟨m.toNat,(Zt5 hn hv h1 h2).2 (by rw[Int.toNat_of_nonneg h3];exact ho),rfl⟩,?_⟩
  rw[Int.toNat_of_nonneg h3];simp
theorem Zxa (w:World) (c:Crw) (cs:List Value) (B:Nat) (u m:Int) (ha:ArgC w c cs B) :
  Calls Tryz.prog 49 #[.agg cs.toArray,.int .i64 u,.int .i64 m] w fun e w'=>Below w.heap.size w w' ∧
   if okH c u m=true then ∃ o cap,e = .returned (.tuple #[.slice o c.us.length cap,.bool true])∧Zal Zbg w' o (alH c u m) else e = .returned (.tuple #[.slice none 0 0,.bool false]):=by
 refine (Zyw w c cs B u m ha).mono ?_
 intro e w' h
 unfold Zzv at h
 obtain⟨hb,hr⟩:=h
 refine⟨hb,?_⟩
 have hnu:=ha.nu
 by_cases ho:okH c u m=true
 ·rw[if_pos ho]
  have hl:=(Zy5 (by omega) ho).1
  have ho':(Zei c u m&&Zb6 (Zat c (Zbi c (Zau c) u.toNat m.toNat)))=true:=ho
  rw[if_pos ho'] at hr
  obtain⟨o,cap,rfl,h2⟩:=hr
  unfold alH at hl
  rw[List.length_map] at hl
  exact⟨o,cap,by rw[hl],Zcw h2 rfl⟩
 ·rw[if_neg ho]
  have ho':¬ (Zei c u m&&Zb6 (Zat c (Zbi c (Zau c) u.toNat m.toNat)))=true:=ho
  rwa [if_neg ho'] at hr
theorem Zxb (w:World) (c:Crw) (cs:List Value) (B:Nat) (u m:Int) (ha:ArgC w c cs B) :
  Calls Tryz.prog 50 #[.agg cs.toArray,.int .i64 u,.int .i64 m] w fun e w'=>Below w.heap.size w w' ∧
   if isH c u m=true then ∃ o cap,e = .returned (.tuple #[.slice o (blH c u m).length cap,.bool true])∧Zal Zbg w' o (blH c u m) else e = .returned (.tuple #[.slice none 0 0,.bool false]):=by
 refine (Zyx w c cs B u m ha).mono ?_
 intro e w' h
 unfold Zxr at h
 obtain⟨hb,hr⟩:=h
 refine⟨hb,?_⟩
 unfold isH blH
 have hU:(Zw9 c u m).U=c.us.length:=rfl
 have hfe:Zb6 (Zw9 c u m)=match Zbh (Zw9 c u m) c.us.length 0 Zgl with | .ok _=>true | .error _=>false:=rfl
 rw[hfe,hU]
 have hX:Zat c (Zbi c (Zau c) u.toNat m.toNat)=Zw9 c u m:=rfl
 rw[hX] at hr
 by_cases hf:Zei c u m=true
 ·rw[if_pos hf] at hr
  rw[hf,Bool.true_and]
  cases hm:Zbh (Zw9 c u m) c.us.length 0 Zgl with
  | ok s=>rw[hm] at hr;exact hr
  | error r =>
   rw[hm] at hr
   obtain⟨g,off,cap,rfl,h2⟩:=hr
   have hl:((r.map Int.ofNat).mergeSort leI).length=r.length:=by rw[List.length_mergeSort,List.length_map]
   refine⟨some ⟨g,off,none⟩,cap,?_,h2.flatR Zbe hl.symm⟩
   show _=Ending.returned (.tuple #[.slice (some ⟨g,off,none⟩) ((r.map Int.ofNat).mergeSort leI).length cap,.bool true])
   rw[hl]
 ·rw[if_neg hf] at hr
  rw[Bool.not_eq_true] at hf
  rw[hf]
  exact hr
theorem Zt6 (w:World) (c:Crw) (cs:List Value) (B:Nat) (u:Int) (ha:ArgC w c cs B) :
  Calls Tryz.prog 47 #[.agg cs.toArray,.int .i64 u] w fun e w'=>Below w.heap.size w w'∧∃ o cap,e = .returned (.slice o (Zgd c u).length cap)∧Zal Zbg w' o ((Zgd c u).map Int.ofNat):=by
 refine (Zwc w c cs B u ha).mono ?_
 intro e w' h
 unfold Zge at h
 obtain⟨⟨o,cap,h1,h2⟩,hb⟩:=h
 exact⟨hb,o,cap,h1,Zcw h2 rfl⟩
end
section
open Go.RowKit Go.Sort Go.Maps
theorem Zpg {P:Program} (w:World) (T ty E:TypeId) (i:TypeInfo) (hT:P.underlying T=some (.slice E)) (hi:P.info? E=some i) (b:Addr) (n cap:Nat) (x:Option Addr) (c:Nat) (hn:n≤cap) :
  (Builtin.append_ #[T,T] ty #[.slice (some b) n cap,.slice x 0 c]).run P w = .ok (.slice (some b) n cap) w:=by
 cases x<;>simp[Builtin.append_,run_underlying hT,sizeOf,typeInfo,hi,hn,Builtin.lenOf,Builtin.firstCells,loadCells,loadCellsFrom,storeCells]
theorem Z0s {α:Type} (f:α→List Value) {ops:Array Oper} {rest:List Oper} {o:Oper} {a:Act} {Q:Exit→Act→World→Prop} (T E:TypeId) (z:Value) (k bt:Nat)
  (hT:Tryz.prog.underlying T=some (.slice E)) (hE:(Tryz.prog.info? E).map (fun i=>(i.zero,i.size,i.bytes))=some (some z,k,bt)) (hz:z.cells.size=k) (hk:0<k) (hbt:bt≤1000) (hf:∀ x,(f x).length=k) (h1:∀ x,∀ u∈f x,u.oneCell'=true)
  (w1:World) (B:Nat) (hg:o.guard=none) (s x:Operand) (hop:o.op=Op.call { callee:=Callee.builtin Builtin.append,args:=#[s,x],argTypes:=#[T,T] })
  (b0:Addr) (cap n:Nat) (l:List α) (hs:a.eval s = .slice (some b0) n cap) (hO:OwnK w1 B k n cap (l.flatMap f) (some b0)) (hB:B≤w1.heap.size)
  (xo:Option Addr) (m c:Nat) (r:List α) (hx:a.eval x = .slice xo m c) (hm:m=r.length) (hr:Zal f w1 xo r)
  (b1:n+m≤1000000000)
  (hK:∀ g off cap' w',OwnK w' B k (n+m) cap' ((l++r).flatMap f) (some ⟨g,off,none⟩)→Below B w1 w'→wpList Tryz.prog ops Q rest (a.put o.dst (.slice (some ⟨g,off,none⟩) (n+m) cap')) w') :
  wpList Tryz.prog ops Q (o::rest) a w1:=by
 rcases Nat.eq_zero_or_pos m with h0 | h0
 ·have hr0:r=[]:=List.eq_nil_of_length_eq_zero (by omega)
  subst h0
  subst hr0
  obtain⟨i0,hi,hz0,hz1,hz2⟩:=Zdm hE
  have hrun:=Zpg (P:=Tryz.prog) w1 T o.type E i0 hT hi b0 n cap xo c hO.len_le.1
  obtain⟨g0,o0,hb0⟩:∃ g off,b0=⟨g,off,none⟩:=by cases hO;exact⟨_,_,rfl⟩
  subst hb0
  refine wpList_plain hg fun K hK'=>?_
  unfold Oper.wp
  simp[execOp,hop,resolve,invoke,builtin,hs,hx,hrun,Result.andThen]
  exact hK' _ _ (hK g0 o0 cap w1 (by rw[List.append_nil];exact hO) (Below.refl _ _))
 ·rcases hr with hr | ⟨g,off,rfl,hgl,hrd⟩
  ·rw[hr] at hm;simp at hm;omega
  refine Z0e T E z k bt hT hE hz hk hbt w1 B hg s x hop (some b0) cap n (l.flatMap f) hs hO hB g off m c (r.flatMap f) hx ?_ h0 hrd ?_ b1 ?_
  ·rw[hm,List.length_flatMap,List.map_congr_left (fun x _=>hf x),List.map_const',List.sum_replicate_nat]
  ·intro u hu
   obtain⟨y,-,hy⟩:=List.mem_flatMap.1 hu
   exact h1 y u hy
  ·intro g' off' cap' w' ho hgr _
   refine hK g' off' cap' w' (by rw[List.flatMap_append];exact ho) ⟨hgr.os,hgr.tape,hgr.output,hgr.size,fun i hi=>?_⟩
   refine hgr.block i (Nat.lt_of_lt_of_le hi hB) (fun e=>?_)
   have:=(hO.blk_lt e.symm).1
   omega
theorem Z00 {α:Type} (f:α→List Value) {ops:Array Oper} {rest:List Oper} {o:Oper} {a:Act} {Q:Exit→Act→World→Prop} (T E:TypeId) (z:Value) (k bt:Nat)
  (hT:Tryz.prog.underlying T=some (.slice E)) (hE:(Tryz.prog.info? E).map (fun i=>(i.zero,i.size,i.bytes))=some (some z,k,bt)) (hz:z.cells.size=k) (hk:0<k) (hbt:bt≤1000) (hf:∀ x,(f x).length=k) (h1:∀ x,∀ u∈f x,u.oneCell'=true)
  (w1:World) (B:Nat) (hg:o.guard=none) (s x:Operand) (hop:o.op=Op.call { callee:=Callee.builtin Builtin.append,args:=#[s,x],argTypes:=#[T,T] })
  (b0:Addr) (cap:Nat) (hs:a.eval s = .slice (some b0) 0 cap) (hO:OwnK w1 B k 0 cap [] (some b0)) (hB:B≤w1.heap.size)
  (xo:Option Addr) (m c:Nat) (r:List α) (hx:a.eval x = .slice xo m c) (hm:m=r.length) (hr:Zal f w1 xo r)
  (b1:m≤1000000)
  (hK:∀ g off cap' w',OwnK w' B k m cap' (r.flatMap f) (some ⟨g,off,none⟩)→Below B w1 w'→wpList Tryz.prog ops Q rest (a.put o.dst (.slice (some ⟨g,off,none⟩) m cap')) w') :
  wpList Tryz.prog ops Q (o::rest) a w1:=by
 refine Z0s f T E z k bt hT hE hz hk hbt hf h1 w1 B hg s x hop b0 cap 0 [] hs hO hB xo m c r hx hm hr (by omega) ?_
 intro g off cap' w' ho hb
 rw[Nat.zero_add] at ho ⊢
 exact hK g off cap' w' ho hb
theorem Zz1 {α:Type} (f:α→List Value) {ops:Array Oper} {rest:List Oper} {o:Oper} {a:Act} {Q:Exit→Act→World→Prop} (T E:TypeId) (z:Value) (k bt:Nat)
  (hT:Tryz.prog.underlying T=some (.slice E)) (hE:(Tryz.prog.info? E).map (fun i=>(i.zero,i.size,i.bytes))=some (some z,k,bt)) (hz:z.cells.size=k) (hk:0<k) (hbt:bt≤1000) (hf:∀ x,(f x).length=k) (h1:∀ x,∀ u∈f x,u.oneCell'=true)
  (w1:World) (B:Nat) (hg:o.guard=none) (s x:Operand) (hop:o.op=Op.call { callee:=Callee.builtin Builtin.append,args:=#[s,x],argTypes:=#[T,T] })
  (b0:Addr) (hs:a.eval s = .slice (some b0) 0 0) (hO:OwnK w1 B k 0 0 [] (some b0)) (hB:B≤w1.heap.size)
  (xo:Option Addr) (m c:Nat) (r:List α) (hx:a.eval x = .slice xo m c) (hm:m=r.length) (hr:Zal f w1 xo r)
  (b1:m≤1000000)
  (hK:∀ g off cap' w',OwnK w' B k m cap' (r.flatMap f) (some ⟨g,off,none⟩)→Below w1.heap.size w1 w'→wpList Tryz.prog ops Q rest (a.put o.dst (.slice (some ⟨g,off,none⟩) m cap')) w') :
  wpList Tryz.prog ops Q (o::rest) a w1:=by
 obtain⟨i0,hi,hz0,hz1,hz2⟩:=Zdm hE
 rcases Nat.eq_zero_or_pos m with h0 | h0
 ·have hr0:r=[]:=List.eq_nil_of_length_eq_zero (by omega)
  subst h0
  subst hr0
  have hrun:=Zpg (P:=Tryz.prog) w1 T o.type E i0 hT hi b0 0 0 xo c (Nat.le_refl _)
  obtain⟨g0,o0,hb0⟩:∃ g off,b0=⟨g,off,none⟩:=by cases hO;exact⟨_,_,rfl⟩
  subst hb0
  refine wpList_plain hg fun K hK'=>?_
  unfold Oper.wp
  simp[execOp,hop,resolve,invoke,builtin,hs,hx,hrun,Result.andThen]
  exact hK' _ _ (hK g0 o0 0 w1 hO (Below.refl _ _))
 ·rcases hr with hr | ⟨g,off,rfl,hgl,hrd⟩
  ·rw[hr] at hm;simp at hm;omega
  refine wpList_append_grows w1 hg s x T hop E i0 z k bt hT hi hz0 hz1 hz2 hz hk (some b0) 0 0 [] hs (fun h=>by cases h) (by simp) (fun b hb j u hj=>by simp at hj) ⟨g,off,none⟩ m c (r.flatMap f) hx ?_ (fun j u hj=>by rw[Addr.add_lit];exact hrd j u hj) ?_ (by omega)
   (by simp only[maxLen];omega) (Nat.le_trans (Nat.mul_le_mul (show 0+m≤1000000000 by omega) hbt) (by decide)) ?_
  ·rw[hm,List.length_flatMap,List.map_congr_left (fun x _=>hf x),List.map_const',List.sum_replicate_nat]
  ·intro u hu
   obtain⟨y,-,hy⟩:=List.mem_flatMap.1 hu
   exact h1 y u hy
  ·intro v' w' ho hgr
   rw[Nat.zero_add,List.nil_append] at ho
   obtain⟨g',cap',rfl,hw,hl',hcm,hle⟩:=OwnK.of_row ho h0
   exact hK g' 0 cap' w' ((OwnK.at g' 0 hw hl' hcm hle).lower hB) ⟨hgr.os,hgr.tape,hgr.output,hgr.size,fun k hk=>hgr.block k hk (by simp)⟩
theorem Zaf.off {w:World} {g:Nat} {t:TypeId} {cs:List Value} (h:Zaf w g t cs) {p:Addr} (hp:g≠p.block) (u:Value):Zaf (w.setCell p u) g t cs:=by
 unfold Zaf
 rw[Below.heap_setCell _ _ _ _ hp]
 exact h
theorem Zz2 {w:World} {c:Crw} {qo mo uo:Option Addr} {qn mn un qc mc uc:Nat} (h:Zf6 w c [.slice qo qn qc,.slice mo mn mc,.slice uo un uc]):Zal Zbn w uo c.us∧un=c.us.length∧un≤uc:=by
 obtain⟨qo',qc',mo',mc',uo',uc',he,h1,h2,h3,h4⟩:=h
 simp only[List.cons.injEq,Value.slice.injEq,and_true] at he
 obtain⟨⟨rfl,rfl,rfl⟩,⟨rfl,rfl,rfl⟩,rfl,rfl,rfl⟩:=he
 exact⟨h3,rfl,h4⟩
theorem Zxc (x:Use):∀ u∈Zbn x,u.oneCell'=true:=by
 intro u hu
 unfold Zbn at hu
 simp only[List.mem_cons,List.not_mem_nil,or_false] at hu
 rcases hu with rfl | rfl | rfl | rfl<;>rfl
def Zqt (c:Crw) (us:List Use):Crw:=⟨c.qs,c.ms,us⟩
theorem Zt7 {w:World} {c:Crw} {qo mo uo:Option Addr} {qn mn un qc mc uc B:Nat} (h:ArgC w c [.slice qo qn qc,.slice mo mn mc,.slice uo un uc] B) {us:List Use} {xo:Option Addr} {xc n:Nat} (hu:Zal Zbn w xo us) (hn:n=us.length) (hl:n≤xc) (h9:us.length≤999):ArgC w (Zqt c us) [.slice qo qn qc,.slice mo mn mc,.slice xo n xc] B:=by
 obtain⟨⟨qo',qc',mo',mc',uo',uc',he,h1,h2,h3,h4⟩,htab,hok,hnu⟩:=h
 simp only[List.cons.injEq,Value.slice.injEq,and_true] at he
 obtain⟨⟨rfl,rfl,rfl⟩,⟨rfl,rfl,rfl⟩,-,-,-⟩:=he
 exact⟨⟨_,_,_,_,_,_,by rw[hn];rfl,h1,h2,hu,by show us.length≤xc;omega⟩,htab,⟨hok.q,hok.m,hok.nq,hok.nm,by show us.length≤1000000;omega⟩,h9⟩
theorem Zt8 (c:Crw) (us:List Use):Zau (Zqt c us)=us.map (Zc2 c (Zaj c)):=rfl
theorem Zqu (c:Crw):Zak c=true↔c.qs.length≤128∧c.ms.length≤64∧c.us.length≤4096∧(∀ p∈c.qs,Zbs p=true)∧(∀ m∈c.ms,Zd2 m=true)∧∀ x∈c.us,Zb4 c.qs.length c.ms.length x=true:=by
 constructor
 ·exact Zan
 ·rintro⟨h1,h2,h3,h4,h5,h6⟩
  unfold Zak
  rw[decide_eq_true h1,decide_eq_true h2,decide_eq_true h3]
  have e1:c.qs.any (fun q=>!Zbs q)=false:=by rw[List.any_eq_false];intro q hq;rw[h4 q hq];decide
  have e2:c.ms.any (fun m=>!Zd2 m)=false:=by rw[List.any_eq_false];intro q hq;rw[h5 q hq];decide
  have e3:c.us.any (fun x=>!Zb4 c.qs.length c.ms.length x)=false:=by rw[List.any_eq_false];intro q hq;rw[h6 q hq];decide
  rw[e1,e2,e3];rfl
theorem Zn1 {c:Crw} {us:List Use} (h:Zak c=true) (hl:us.length≤4096) (hu:∀ x∈us,Zb4 c.qs.length c.ms.length x=true):Zak (Zqt c us)=true:=by
 obtain⟨h1,h2,h3,h4,h5,h6⟩:=Zan h
 exact (Zqu _).2 ⟨h1,h2,hl,h4,h5,hu⟩
theorem Zt9 (c:Crw) (H:List (List Bool)) (x:Use) {k:Nat} (hk:k<c.ms.length):(Zc2 c H x).getD k false=Zyn c H x k:=by
 unfold Zc2
 rw[List.getD_eq_getElem?_getD,List.getElem?_map,List.getElem?_range hk];rfl
theorem Zy7 {c:Crw} (us:List Use) {v:Nat} (hv:v<us.length) {k:Nat} (hk:k<c.ms.length):(Zat (Zqt c us) (Zau (Zqt c us))).can v k=Zyn c (Zaj c) (us.getD v ⟨0,0,0,0⟩) k:=by
 show ((us.map (Zc2 c (Zaj c))).getD v []).getD k false=_
 have h1:(us.map (Zc2 c (Zaj c))).getD v []=Zc2 c (Zaj c) us[v]:=by rw[List.getD_eq_getElem?_getD,List.getElem?_map,List.getElem?_eq_getElem hv];rfl
 have h2:us.getD v ⟨0,0,0,0⟩=us[v]:=by rw[List.getD_eq_getElem?_getD,List.getElem?_eq_getElem hv];rfl
 rw[h1,h2,Zt9 c _ _ hk]
end
section
open Go.RowKit Go.Sort Go.Maps
theorem Zji (c:Crw) (x:Use):Zar c x=Zqt c (c.us++[x]):=rfl
theorem Zua (c:Crw) (x:Use):Zau (Zar c x)=Zau c++[Zc2 c (Zaj c) x]:=by
 rw[Zji,Zt8,List.map_append];rfl
theorem Zdb {c:Crw} (hv:Zak c=true) (hn:c.us.length≤999) (x:Use):Zak (Zar c x)=Zb4 c.qs.length c.ms.length x:=by
 obtain⟨h1,h2,h3,h4,h5,h6⟩:=Zan hv
 rw[Bool.eq_iff_iff]
 constructor
 ·intro h
  exact (Zan h).2.2.2.2.2 x (by show x∈c.us++[x];simp)
 ·intro h
  refine Zn1 hv (by simp;omega) (fun y hy=>?_)
  rcases List.mem_append.1 hy with g | g
  ·exact h6 y g
  ·rw[List.mem_singleton.1 g];exact h
theorem Ze9 {c:Crw} (hv:Zak c=true) (x:Use):Zc7 c x=Zb4 c.qs.length c.ms.length x:=by
 unfold Zc7;rw[hv,Bool.true_and]
theorem Zmr {c:Crw} (hv:Zak c=true) (hn:c.us.length≤999) {x:Use} (h:Zak (Zar c x)=true):Zed c x=Zgd (Zar c x) (c.us.length:Int):=by
 have hp:=Ze9 hv x
 rw[← Zdb hv hn,h] at hp
 unfold Zed Zgd
 rw[if_pos hp,h,Zdr.2 ⟨by omega,by show c.us.length<(c.us++[x]).length;simp⟩,Bool.true_and,if_pos rfl,← Zua]
 rfl
theorem Zub {c:Crw} (hv:Zak c=true) (hn:c.us.length≤999) {x:Use} (h:Zak (Zar c x)=false):Zed c x=[]:=by
 have hp:=Ze9 hv x
 rw[← Zdb hv hn,h] at hp
 unfold Zed
 rw[hp,if_neg (by decide)]
theorem Zuc (c:Crw) (x:Use):(Zar c x).us.getD c.us.length ⟨0,0,0,0⟩=x:=by
 show (c.us++[x]).getD c.us.length ⟨0,0,0,0⟩=x
 rw[List.getD_eq_getElem?_getD,List.getElem?_append_right (Nat.le_refl _),Nat.sub_self];rfl
theorem Zud {c:Crw} (hv:Zak c=true) (hn:c.us.length≤999) {x:Use} (h:Zak (Zar c x)=true) {m:Nat} (ho:okH (Zar c x) (c.us.length:Int) (m:Int)=true):Zqd c x (m:Int)=true:=by
 have hok:=Zaq h (by show (c.us++[x]).length≤1000;simp;omega)
 unfold okH at ho
 rw[Bool.and_eq_true] at ho
 obtain⟨hf,hfe⟩:=ho
 obtain⟨-,h1,h2,h3,h4⟩:=Zha hf
 have hU:c.us.length<(Zar c x).us.length:=by show _<(c.us++[x]).length;simp
 obtain⟨a,ha⟩:=Zs7 hfe
 have ha:Legal (Zat (Zar c x) (Zbi (Zar c x) (Zau (Zar c x)) c.us.length m)) a:=ha
 have h4:m<c.ms.length:=h4
 obtain⟨hl,hm⟩:=(Zdk hok hU h4 a).1 ha
 have hc:=hl.can c.us.length hU
 rw[hm] at hc
 have hc2:=Zy7 (c:=c) (c.us++[x]) (v:=c.us.length) (by simp) h4
 rw[Zji] at hc
 rw[hc2] at hc
 have e:(c.us++[x]).getD c.us.length ⟨0,0,0,0⟩=x:=Zuc c x
 rw[e] at hc
 unfold Zqd
 rw[hv,← Zdb hv hn,h,Zdr.2 ⟨by omega,by exact h4⟩,Bool.true_and,Bool.true_and,Bool.true_and]
 show (Zc2 c (Zaj c) x).getD m false=true
 rw[Zt9 c _ _ h4];exact hc
theorem Zms {c:Crw} (hv:Zak c=true) (hn:c.us.length≤999) {x:Use} (h:Zak (Zar c x)=true) (l:List Wsh):Zgt c [] x l=!decide (((Zed c x).length:Int)<Zc8 x.q l):=by
 have hp:=Ze9 hv x
 rw[← Zdb hv hn,h] at hp
 unfold Zgt Zc0 Ztj
 rw[hp]
 have e:(Zar c x).us.getD ((c.us.length:Nat):Int).toNat ⟨0,0,0,0⟩=x:=Zuc c x
 rw[e]
 have e2:Zgc (Zar c x) (Zau c++[Zc2 c (Zaj c) x]) ((c.us.length:Nat):Int).toNat=Zed c x:=by
  unfold Zed
  rw[if_pos hp];rfl
 rw[e2]
 have e3:(x.w==x.w)=true:=by simp
 rw[e3]
 show (true&&true&&!(true&&decide _||false))=_
 rw[Bool.or_false,Bool.true_and,Bool.true_and,Bool.true_and]
theorem Zn2 (q n:Int) (hq:0≤q) (hn:0≤n):Zc8 q [⟨q,n⟩,⟨q+1,100⟩]=n:=by
 show (if q+1 = -1∨q+1=q then max (if q = -1∨q=q then max 0 n else 0) 100 else (if q = -1∨q=q then max 0 n else 0))=n
 rw[if_neg (by omega),if_pos (.inr rfl)]
 omega
theorem Zue (q n:Int) (hn:0≤n):Zc8 q [⟨-1,n⟩]=n:=by
 show (if (-1:Int) = -1∨(-1:Int)=q then max 0 n else 0)=n
 rw[if_pos (.inl rfl)]
 omega
end
section
open Go.RowKit Go.Sort Go.Maps
def Zn3 (a b:List Int):Bool:=a.all (fun x=>b.any (fun y=>x==y))
theorem Zph (w:World) (a b:List Int) (ao bo:Option Addr) (ac bc:Nat) (ha:Zal Zbg w ao a) (hb:Zal Zbg w bo b) (hl:a.length≤1000000) (hl2:b.length≤1000000) :
  Calls Tryz.prog 26 #[.slice ao a.length ac,.slice bo b.length bc] w fun e w'=>e = .returned (.bool (Zn3 a b))∧Below w.heap.size w w':=by
 have HA:=ħ (fun W (hW:Below w.heap.size w W)=>ha.below hW)
 have HB:=ħ (fun W (hW:Below w.heap.size w W)=>hb.below hW)
 have HGA:Hid (∀ (i:Nat),i<a.length→∃ x,a[i]?=some x):=ħ (fun i h=>⟨_,List.getElem?_eq_getElem h⟩)
 have HGB:Hid (∀ (i:Nat),i<b.length→∃ x,b[i]?=some x):=ħ (fun i h=>⟨_,List.getElem?_eq_getElem h⟩)
 have HNB:Hid (∀ (x:Int) (k:Nat) (y:Int),b[k]?=some y→(b.take (k+1)).any (fun z=>x==z)=((b.take k).any (fun z=>x==z)||(x==y))):=ħ (fun x k y hy=>by
  rw[List.take_add_one,hy,List.any_append];simp)
 have HEB:Hid (∀ x:Int,(b.take b.length).any (fun z=>x==z)=b.any (fun z=>x==z)):=ħ (fun x=>by rw[List.take_length])
 have HNA:Hid (∀ (i:Nat) (x:Int),a[i]?=some x→(a.take (i+1)).all (fun x=>b.any (fun y=>x==y))=((a.take i).all (fun x=>b.any (fun y=>x==y))&&b.any (fun y=>x==y))):=ħ (fun i x hx=>by
  rw[List.take_add_one,hx,List.all_append];simp)
 have HEA:Hid ((a.take a.length).all (fun x=>b.any (fun y=>x==y))=Zn3 a b):=ħ (by rw[List.take_length];rfl)
 have HFA:Hid (∀ (i:Nat) (x:Int),a[i]?=some x→b.any (fun y=>x==y)=false→Zn3 a b=false):=ħ (fun i x hx h=>by
  unfold Zn3
  rw[List.all_eq_false]
  exact⟨x,List.mem_of_getElem? hx,by rw[h];decide⟩)
 clear ha hb
 generalize Zn3 a b=DE at *
 generalize hal:a.length=al at *
 generalize hbl:b.length=bl at *
 clear hal hbl
 go_enter Tryz.func26,Tryz.ntmps26
 go_wp2_with fail
 go_loopw [5] (fun iv wr=>∃ (i:Nat),iv = .int .i64 i∧i≤al∧Hid ((a.take i).all (fun x=>b.any (fun y=>x==y))=true)∧Hid (Below w.heap.size w wr)) (fun i _=>(al-intOf i).toNat)
 case atStart=>exact⟨0,rfl,by omega,ħ rfl,ħ (Below.refl _ _)⟩
 case round =>
  obtain⟨i,rfl,hi,HJ,BB⟩:=hrel
  have e2:IntKind.i64.wrap ((i:Int)+1)=((i+1:Nat):Int):=IntWalk.i64_in _ (by omega)
  by_cases hin:i<al
  ·have ii:(i:Int)<al:=by omega
   obtain⟨x,hx⟩:=HGA.o i hin
   have HX:=ħ hx
   clear hx
   go_upto_region 6 with (fail)
   go_wp2_with fail
   generalize wr=wo at *
   go_loopw [6,7] (fun fv kv wr=>∃ (k:Nat),kv = .int .i64 k∧k≤bl∧fv = .bool ((b.take k).any (fun z=>x==z))∧Hid (Below w.heap.size w wr)) (fun _ k _=>(bl-intOf k).toNat)
   case atStart=>exact⟨0,rfl,by omega,rfl,BB⟩
   case round =>
    clear BB
    obtain⟨k,rfl,hk,rfl,BB⟩:=hrel
    have e3:IntKind.i64.wrap ((k:Int)+1)=((k+1:Nat):Int):=IntWalk.i64_in _ (by omega)
    by_cases hkn:k<bl
    ·have kk:(k:Int)<bl:=by omega
     obtain⟨y,hy⟩:=HGB.o k hkn
     have HN:=ħ (HNB.o x k y hy)
     obtain⟨ga,oa,hao,hga,a0⟩:=(HA.o wr BB.o).int i x HX.o
     obtain⟨gb,ob,hbo,hgb,b0⟩:=(HB.o wr BB.o).int k y hy
     have HAO:=ħ hao
     have HBO:=ħ hbo
     subst hao
     subst hbo
     clear hga hgb hy
     obtain⟨fb,hfb⟩:∃ t,(b.take k).any (fun z=>x==z)=t:=⟨_,rfl⟩
     rw[hfb] at HN ⊢
     clear hfb
     cases fb with
     | true =>
      go_upto_region 8 with (fail)
      go_quiet (fail)
      have B3:=ħ (below_drewN BB.o nq)
      clear a0 b0 BB
      generalize wr.drewN nq=wd at *
      go_wp2_with fail
      go_roundw
      case rel=>exact⟨k+1,by go_num,by omega,by rw[HN.o];rfl,B3⟩
      case measure=>simp only[intOf];omega
     | false =>
      obtain⟨xb,hxb⟩:∃ t,(x==y)=t:=⟨_,rfl⟩
      rw[hxb] at HN
      cases xb with
      | true =>
       go_upto_region 8 with (fail)
       go_quiet (fail)
       have B3:=ħ (below_drewN BB.o nq)
       clear a0 b0 BB
       generalize wr.drewN nq=wd at *
       go_wp2_with fail
       go_roundw
       case rel=>exact⟨k+1,by go_num,by omega,by rw[HN.o];rfl,B3⟩
       case measure=>simp only[intOf];omega
      | false =>
       go_upto_region 8 with (fail)
       go_quiet (fail)
       have B3:=ħ (below_drewN BB.o nq)
       clear a0 b0 BB
       generalize wr.drewN nq=wd at *
       go_wp2_with fail
       go_roundw
       case rel=>exact⟨k+1,by go_num,by omega,by rw[HN.o];rfl,B3⟩
       case measure=>simp only[intOf];omega
    ·have kk:¬ (k:Int)<bl:=by omega
     obtain rfl:k=bl:=by omega
     rw[HEB.o x]
     have HNX:=ħ (HNA.o i x HX.o)
     have HFX:=ħ (HFA.o i x HX.o)
     obtain⟨fb,hfb⟩:∃ t,b.any (fun z=>x==z)=t:=⟨_,rfl⟩
     rw[hfb] at HNX HFX ⊢
     clear hfb
     cases fb with
     | true =>
      go_wp2_with fail
      go_roundw
      case rel=>exact⟨i+1,by go_num,by omega,ħ (by rw[HNX.o,HJ.o];rfl),BB⟩
      case measure=>simp only[intOf];omega
     | false =>
      have HD:=ħ (HFX.o rfl)
      go_wp2_with fail
      go_ret
      exact⟨by rw[HD.o];rfl,BB.o⟩
  ·have ii:¬ (i:Int)<al:=by omega
   obtain rfl:al=i:=by omega
   have HD:Hid (DE=true):=ħ (by rw[← HEA.o];exact HJ.o)
   go_wp2_with fail
   go_ret
   exact⟨by rw[HD.o];rfl,BB.o⟩
theorem Z0t (t:Array Value) (h:t.size=16):∃ f:Nat→Value,t=#[f 0,f 1,f 2,f 3,f 4,f 5,f 6,f 7,f 8,f 9,f 10,f 11,f 12,f 13,f 14,f 15]:=by
 obtain⟨l⟩:=t
 have hl:l.length=16:=h
 have e:l=(List.range 16).map (fun i=>l.getD i undef):=by
  apply List.ext_getElem
  ·simp[hl]
  ·intro i h1 h2
   simp[List.getD,h1]
 exact⟨fun i=>l.getD i undef,congrArg List.toArray e⟩
theorem Zn4 (i:Nat) (h:Zju 6 i):i=0∨i=1∨i=2∨i=3∨i=4∨i=5∨i=7:=by unfold Zju at h;omega
def Zxd (CB XB OB WS:Nat) (uo:Option Addr) (un uc:Nat) (us:List Use) (u0 u1 u2 u3:Int) (i:Nat) (W:World) (v:Value):Prop:=match i with
 | 0=>∃ V,v = .slice (some ⟨V,0,none⟩) 0 0∧OwnK W WS 4 0 0 [] (some ⟨V,0,none⟩)
 | 1=>v = .pointer (some ⟨CB,2,none⟩)
 | 2=>v = .slice uo un uc
 | 3=>∃ g5 off5 c5,v = .slice (some ⟨g5,off5,none⟩) un c5∧OwnK W WS 4 un c5 (us.flatMap Zbn) (some ⟨g5,off5,none⟩)
 | 4=>v = .agg #[.int .i64 u0,.int .i64 u1,.int .i64 u2,.int .i64 u3]
 | 5=>∃ V,v = .slice (some ⟨V,0,none⟩) 1 1∧Zaf W V 39 [.int .i64 u0,.int .i64 u1,.int .i64 u2,.int .i64 u3]
 | 6=>True
 | 7=>v = .pointer (some ⟨OB,2,none⟩)
 | _=>True
theorem Zuf (CB XB OB WS:Nat) (uo:Option Addr) (un uc:Nat) (us:List Use) (u0 u1 u2 u3:Int):∀ i w w' v,Zxd CB XB OB WS uo un uc us u0 u1 u2 u3 i w v→Below w.heap.size w w'→Zxd CB XB OB WS uo un uc us u0 u1 u2 u3 i w' v:=by
 intro i w w' v h hb
 match i with
 | 0=>obtain⟨V,h1,h2⟩:=h;exact⟨V,h1,h2.below hb⟩
 | 1=>exact h
 | 2=>exact h
 | 3=>obtain⟨g5,off5,c5,h1,h2⟩:=h;exact⟨g5,off5,c5,h1,h2.below hb⟩
 | 4=>exact h
 | 5=>obtain⟨V,h1,h2⟩:=h;exact⟨V,h1,h2.step hb⟩
 | 6=>trivial
 | 7=>exact h
 | k+8=>trivial
theorem Zug (w:World) (c:Crw) (cs:List Value) (x:Use) (hcw:Zf6 w c cs) (hn:c.us.length≤999) :
  Calls Tryz.prog 48 #[.agg cs.toArray,.agg (Zbn x).toArray] w fun e w'=>(∃ g off cap,e = .returned (.agg (cs.set 2 (.slice (some ⟨g,off,none⟩) (c.us.length+1) cap)).toArray)∧OwnK w' w.heap.size 4 (c.us.length+1) cap ((c.us++[x]).flatMap Zbn) (some ⟨g,off,none⟩))∧Below w.heap.size w w':=by
 have HUF0:=ħ (fun W (hW:Below w.heap.size w W)=>hcw.below hW)
 obtain⟨qo,qc,mo,mc,uo,uc,rfl,-⟩:=hcw
 obtain⟨us,hus⟩:∃ l,c.us=l:=⟨_,rfl⟩
 have HUG:=ħ (fun W (hW:Below w.heap.size w W)=>(Zz2 (HUF0.o W hW)).1)
 rw[hus] at HUG hn ⊢
 obtain⟨un,hun⟩:∃ n,us.length=n:=⟨_,rfl⟩
 have HUL:Hid (un=us.length):=ħ hun.symm
 rw[hun] at hn ⊢
 clear hun
 generalize c.qs.length=qn at *
 generalize c.ms.length=mn at *
 obtain⟨u0,u1,u2,u3⟩:=x
 clear hus
 have X1:=ħ (Zaf.new w 26 [.slice qo qn qc,.slice mo mn mc,.slice uo un uc])
 have Y1:=ħ (Zaf.new (w.alloc (.cells #[.slice qo qn qc,.slice mo mn mc,.slice uo un uc] 26)) 39 [.int .i64 u0,.int .i64 u1,.int .i64 u2,.int .i64 u3])
 have Z1:=ħ (Zaf.new ((w.alloc (.cells #[.slice qo qn qc,.slice mo mn mc,.slice uo un uc] 26)).alloc (.cells #[.int .i64 u0,.int .i64 u1,.int .i64 u2,.int .i64 u3] 39)) 26 [.slice none 0 0,.slice none 0 0,.slice none 0 0])
 have b1:=(Below.refl w.heap.size w).alloc (Nat.le_refl _) (.cells #[.slice qo qn qc,.slice mo mn mc,.slice uo un uc] 26)
 have b2:=b1.alloc b1.size (.cells #[.int .i64 u0,.int .i64 u1,.int .i64 u2,.int .i64 u3] 39)
 have b3:=b2.alloc b2.size (.cells #[.slice none 0 0,.slice none 0 0,.slice none 0 0] 26)
 have e1:(w.alloc (.cells #[.slice qo qn qc,.slice mo mn mc,.slice uo un uc] 26)).heap.size=w.heap.size+1:=by rw[World.size_alloc]
 have e2:((w.alloc (.cells #[.slice qo qn qc,.slice mo mn mc,.slice uo un uc] 26)).alloc (.cells #[.int .i64 u0,.int .i64 u1,.int .i64 u2,.int .i64 u3] 39)).heap.size=w.heap.size+2:=by rw[World.size_alloc,e1]
 have Y1:Hid (Zaf (((w.alloc (.cells #[.slice qo qn qc,.slice mo mn mc,.slice uo un uc] 26)).alloc (.cells #[.int .i64 u0,.int .i64 u1,.int .i64 u2,.int .i64 u3] 39)).alloc (.cells #[.slice none 0 0,.slice none 0 0,.slice none 0 0] 26)) (w.heap.size+1) 39 [.int .i64 u0,.int .i64 u1,.int .i64 u2,.int .i64 u3]):=ħ (by
  have:=Y1.o.step ((Below.refl _ _).alloc (Nat.le_refl _) (.cells #[.slice none 0 0,.slice none 0 0,.slice none 0 0] 26))
  rw[e1] at this;exact this)
 have Z1:Hid (Zaf (((w.alloc (.cells #[.slice qo qn qc,.slice mo mn mc,.slice uo un uc] 26)).alloc (.cells #[.int .i64 u0,.int .i64 u1,.int .i64 u2,.int .i64 u3] 39)).alloc (.cells #[.slice none 0 0,.slice none 0 0,.slice none 0 0] 26)) (w.heap.size+2) 26 [.slice none 0 0,.slice none 0 0,.slice none 0 0]):=ħ (by
  have:=Z1.o
  rw[e2] at this;exact this)
 have X1:Hid (Zaf (((w.alloc (.cells #[.slice qo qn qc,.slice mo mn mc,.slice uo un uc] 26)).alloc (.cells #[.int .i64 u0,.int .i64 u1,.int .i64 u2,.int .i64 u3] 39)).alloc (.cells #[.slice none 0 0,.slice none 0 0,.slice none 0 0] 26)) w.heap.size 26 [.slice qo qn qc,.slice mo mn mc,.slice uo un uc]):=ħ ((X1.o.step ((Below.refl _ _).alloc (Nat.le_refl _) (.cells #[.int .i64 u0,.int .i64 u1,.int .i64 u2,.int .i64 u3] 39))).step ((Below.refl _ _).alloc (Nat.le_refl _) (.cells #[.slice none 0 0,.slice none 0 0,.slice none 0 0] 26)))
 have B1:=ħ b3
 clear b1 b2 b3 e1 e2
 change Calls Tryz.prog 48 #[.agg #[.slice qo qn qc,.slice mo mn mc,.slice uo un uc],.agg #[.int .i64 u0,.int .i64 u1,.int .i64 u2,.int .i64 u3]] w _
 go_enter Tryz.func48,Tryz.ntmps48
 go_upto_region 1 with (fail)
 generalize ((w.alloc (.cells #[.slice qo qn qc,.slice mo mn mc,.slice uo un uc] 26)).alloc (.cells #[.int .i64 u0,.int .i64 u1,.int .i64 u2,.int .i64 u3] 39)).alloc (.cells #[.slice none 0 0,.slice none 0 0,.slice none 0 0] 26)=w1 at *
 have O1:Hid (Zaf (w1.alloc (.cells #[.slice none 0 0,.slice none 0 0,.slice none 0 0] 26)) w1.heap.size 26 [.slice none 0 0,.slice none 0 0,.slice none 0 0]):=ħ (heap_alloc_new w1 _)
 have BO:=ħ ((Below.refl w1.heap.size w1).alloc (Nat.le_refl _) (.cells #[.slice none 0 0,.slice none 0 0,.slice none 0 0] 26))
 go_upto_region 2 with (first | (refine wpList_load_row rfl 26 (.tmp 2) rfl (w.heap.size) ?xl9 26 #[.slice qo qn qc,.slice mo mn mc,.slice uo un uc] (0,0) _ X1.o Tryz.underlying26 rfl (Za0 _ _ _) ?_;(case xl9=>rfl)) | (refine Zas rfl 26 (.tmp 5) (.tmp 6) rfl w1.heap.size #[.slice qo qn qc,.slice mo mn mc,.slice uo un uc] (by rfl) (by rfl) 26 _ O1.o (Za0 _ _ _) rfl (by simp[Value.oneCell']) ?_;intro w9 s9 u9;have S9:=ħ s9;have U9:=ħ u9;clear s9 u9))
 have A9:=ħ (U9.o.below BO.o (Nat.le_refl _))
 have S9:Hid (Zaf w9 w1.heap.size 26 [.slice qo qn qc,.slice mo mn mc,.slice uo un uc]):=ħ S9.o
 have X9:=ħ (X1.o.step A9.o)
 have L9:=ħ (B1.o.trans (A9.o.mono B1.o.size))
 have Z9:Hid (w1.heap.size<w9.heap.size):=ħ S9.o.lt
 clear O1 BO U9
 have Y9:=ħ (Y1.o.step A9.o)
 have Z9r:=ħ (Z1.o.step A9.o)
 have HCB:=ħ (fun W (hW:Below w9.heap.size w9 W)=>X9.o.step hW)
 have HXB:=ħ (fun W (hW:Below w9.heap.size w9 W)=>Y9.o.step hW)
 have HUF:=ħ (fun W (hW:Below w9.heap.size w9 W)=>HUG.o W (L9.o.trans (hW.mono L9.o.size)))
 obtain⟨ob,hob⟩:∃ n,w1.heap.size=n:=⟨_,rfl⟩
 have HOB:=ħ hob
 rw[hob] at S9 Z9 ⊢
 have HX1:=ħ X1.o.lt
 have HZ1:=ħ Z1.o.lt
 clear hob Y1 Z1 X1 A9
 refine Zim 6 (Zxd (w.heap.size) (w.heap.size+1) ob w9.heap.size uo un uc us u0 u1 u2 u3) (by kernel_rfl) rfl (Zuf (w.heap.size) (w.heap.size+1) ob w9.heap.size uo un uc us u0 u1 u2 u3) (Zu3 (by kernel_rfl)) (Zxy (by kernel_rfl)) (Zbm (by kernel_rfl)) (Zog (by kernel_rfl)) (Zog (by kernel_rfl)) ?hs ?hA ?hB
 case hs =>
  intro i o hin hi listed a' w' H hsn hl2
  have hl3:=Zax hl2
  have hb:=ħ H.below
  have s2:=hsn 2 (Zho (by kernel_rfl))
  have s3:=hsn 3 (Zho (by kernel_rfl))
  have s5:=hsn 5 (Zho (by kernel_rfl))
  have hdn:=H.done
  have hdf:=H.defers
  have hts:=H.tsize
  clear hl2 H hsn
  obtain⟨t',df⟩:=a'
  obtain⟨f',rfl⟩:=Z0t t' hts
  have hdf':df=[]:=hdf
  subst hdf'
  have gs2:f' 2 = .pointer (some ⟨w.heap.size,0,none⟩):=s2
  have gs3:f' 3 = .pointer (some ⟨w.heap.size+1,0,none⟩):=s3
  have gs5:f' 5 = .pointer (some ⟨ob,0,none⟩):=s5
  clear s2 s3 s5
  clear hdf hts
  have hcases:=Zn4 i hin
  clear hin
  rcases hcases with rfl | rfl | rfl | rfl | rfl | rfl | rfl
  ·obtain rfl:=Option.some.inj hi
   clear hdn hl3
   clear gs2 gs3 gs5
   have bx:=(Below.refl w'.heap.size w').alloc (Nat.le_refl _) (.cells #[] 39)
   have HV:=ħ ((OwnK.made w' 39 4).lower hb.o.size)
   have BX:=ħ bx
   clear bx
   refine Zab rfl ?_
   go_wp2_with fail
   exact Zaa ⟨_,rfl,BX.o,w'.heap.size,rfl,HV.o⟩
  ·obtain rfl:=Option.some.inj hi
   clear hdn hl3
   rw[gs2]
   clear gs2 gs3 gs5
   refine Zab rfl ?_
   go_wp2_with fail
   exact Zaa ⟨_,rfl,Below.refl _ _,rfl⟩
  ·obtain rfl:=Option.some.inj hi
   have dv1:f' 8 = .pointer (some ⟨w.heap.size,2,none⟩):=hdn 1 _ 8 rfl (hl3 1 (by rfl)) rfl
   clear hdn hl3
   rw[dv1]
   clear dv1 gs2 gs3 gs5
   have c2:=(HCB.o w' hb.o).cell 2 _ rfl
   refine Zab rfl ?_
   go_wp2_with fail
   exact Zaa ⟨_,rfl,Below.refl _ _,rfl⟩
  ·obtain rfl:=Option.some.inj hi
   have dv0:Zxd (w.heap.size) (w.heap.size+1) ob w9.heap.size uo un uc us u0 u1 u2 u3 0 w' (f' 7):=hdn 0 _ 7 rfl (hl3 0 (by rfl)) rfl
   obtain⟨V,dv0,hV⟩:=dv0
   have dv2:f' 9 = .slice uo un uc:=hdn 2 _ 9 rfl (hl3 2 (by rfl)) rfl
   clear hdn hl3
   rw[dv0,dv2]
   clear dv0 dv2 gs2 gs3 gs5
   have HV:=ħ hV
   clear hV
   have HUW:=ħ (HUF.o w' hb.o)
   refine Zab rfl ?_
   refine Zz1 Zbn 24 39 (.agg #[.int .i64 0,.int .i64 0,.int .i64 0,.int .i64 0]) 4 32 Tryz.underlying24 Zd5 rfl (by omega) (by omega) Zbf Zxc w' w9.heap.size rfl (.tmp 7) (.tmp 9) rfl ⟨V,0,none⟩ ?q1 HV.o hb.o.size uo un uc us ?q2 HUL.o HUW.o (by omega) ?_
   case q1=>rfl
   case q2=>rfl
   intro g5 off5 c5 wa o8 b8
   have O8:=ħ o8
   have B8:=ħ b8
   clear o8 b8
   go_wp2_with fail
   exact Zaa ⟨_,rfl,B8.o,g5,off5,c5,rfl,O8.o⟩
  ·obtain rfl:=Option.some.inj hi
   clear hdn hl3
   rw[gs3]
   clear gs2 gs3 gs5
   have hx:=HXB.o w' hb.o
   have p0:=hx.cell 0 _ rfl
   have p1:=hx.cell 1 _ rfl
   have p2:=hx.cell 2 _ rfl
   have p3:=hx.cell 3 _ rfl
   clear hx
   refine Zab rfl ?_
   go_wp2_with fail
   exact Zaa ⟨_,rfl,Below.refl _ _,rfl⟩
  ·obtain rfl:=Option.some.inj hi
   have dv4:f' 11 = .agg #[.int .i64 u0,.int .i64 u1,.int .i64 u2,.int .i64 u3]:=hdn 4 _ 11 rfl (hl3 4 (by rfl)) rfl
   clear hdn hl3
   rw[dv4]
   clear dv4 gs2 gs3 gs5
   have bx:=(Below.refl w'.heap.size w').alloc (Nat.le_refl _) (.cells #[.int .i64 u0,.int .i64 u1,.int .i64 u2,.int .i64 u3] 39)
   have HV:Hid (Zaf (w'.alloc (.cells #[.int .i64 u0,.int .i64 u1,.int .i64 u2,.int .i64 u3] 39)) w'.heap.size 39 [.int .i64 u0,.int .i64 u1,.int .i64 u2,.int .i64 u3]):=ħ (heap_alloc_new _ _)
   have BX:=ħ bx
   clear bx
   refine Zab rfl ?_
   go_wp2_with fail
   exact Zaa ⟨_,rfl,BX.o,w'.heap.size,rfl,HV.o⟩
  ·obtain rfl:=Option.some.inj hi
   clear hdn hl3
   rw[gs5]
   clear gs2 gs3 gs5
   refine Zab rfl ?_
   go_wp2_with fail
   exact Zaa ⟨_,rfl,Below.refl _ _,rfl⟩
 case hA =>
  intro listed a' w4 H hsn hall hstr
  have hd3:Zxd (w.heap.size) (w.heap.size+1) ob w9.heap.size uo un uc us u0 u1 u2 u3 3 w4 (a'.tmps.getD 10 undef):=H.done 3 _ 10 rfl (hall 3 (by decide)) rfl
  have hd5:Zxd (w.heap.size) (w.heap.size+1) ob w9.heap.size uo un uc us u0 u1 u2 u3 5 w4 (a'.tmps.getD 12 undef):=H.done 5 _ 12 rfl (hall 5 (by decide)) rfl
  have hd7:Zxd (w.heap.size) (w.heap.size+1) ob w9.heap.size uo un uc us u0 u1 u2 u3 7 w4 (a'.tmps.getD 14 undef):=H.done 7 _ 14 rfl hstr rfl
  have hb4:=ħ H.below
  have hact:=H.actX hsn [7,8,9,10,11,12,14] (Zrf (by kernel_rfl))
  clear H hall hsn hstr
  simp only[List.foldl_cons,List.foldl_nil] at hact
  generalize a'.tmps.getD 7 undef=z7 at *
  generalize a'.tmps.getD 8 undef=z8 at *
  generalize a'.tmps.getD 9 undef=z9 at *
  generalize a'.tmps.getD 10 undef=z10 at *
  generalize a'.tmps.getD 11 undef=z11 at *
  generalize a'.tmps.getD 12 undef=z12 at *
  generalize a'.tmps.getD 14 undef=z14 at *
  subst hact
  obtain⟨g5,off5,c5,e3,hO5⟩:=hd3
  subst e3
  obtain⟨V,e5,hV⟩:=hd5
  subst e5
  have e7:z14 = .pointer (some ⟨ob,2,none⟩):=hd7
  subst e7
  clear hd7
  simp only[Act.put,List.setIfInBounds_toArray,List.set_cons_succ,List.set_cons_zero]
  have HO5:=ħ hO5
  have HV:=ħ hV
  have S4:=ħ (S9.o.step hb4.o)
  have B4:=ħ (L9.o.trans (hb4.o.mono L9.o.size))
  have Z4:=ħ (Z9r.o.step hb4.o)
  have K4:=ħ hb4.o.size
  clear hO5 hV hb4 HCB HXB HUF X9 Y9 Z9r L9
  refine (Zab rfl ?_)
  refine Zsj 24 39 (.agg #[.int .i64 0,.int .i64 0,.int .i64 0,.int .i64 0]) 4 32 Tryz.underlying24 Zd5 rfl (by omega) (by omega) w4 w9.heap.size rfl (.tmp 10) (.tmp 12) rfl (some ⟨g5,off5,none⟩) c5 un (us.flatMap Zbn) ?r1A HO5.o K4.o V 1 1 [.int .i64 u0,.int .i64 u1,.int .i64 u2,.int .i64 u3] 39 ?r2A HV.o rfl (by omega) ?r3A (by omega) ?_
  case r1A=>rfl
  case r2A=>rfl
  case r3A=>simp[Value.oneCell']
  intro g6 off6 c6 wq o6 b6
  have O6:Hid (OwnK wq w9.heap.size 4 (un+1) c6 ((us++[(⟨u0,u1,u2,u3⟩:Use)]).flatMap Zbn) (some ⟨g6,off6,none⟩)):=ħ (by rw[List.flatMap_append];exact o6)
  have S6:=ħ (S4.o.below b6 Z9.o)
  have Z6:=ħ (Z4.o.below b6 (Nat.lt_trans HZ1.o (by rw[HOB.o];exact Z9.o)))
  have B6:=ħ (B4.o.trans (b6.mono (Nat.le_trans (Nat.le_of_lt (Nat.lt_of_lt_of_le HX1.o (by rw[HOB.o];exact Nat.le_of_lt Z9.o))) (Nat.le_refl _))))
  have HG6:Hid (w9.heap.size≤g6):=ħ (O6.o.blk_lt rfl).1
  clear o6 b6 S4 Z4 B4 HO5 HV K4
  have c8:=S6.o.cell 2 _ rfl
  have f8:=S6.o.warm 2
  have SZ:Hid (Zaf (wq.setCell ⟨ob,2,none⟩ (.slice (some ⟨g6,off6,none⟩) (un+1) c6)) ob 26 [.slice qo qn qc,.slice mo mn mc,.slice (some ⟨g6,off6,none⟩) (un+1) c6]):=ħ (S6.o.set 2 _)
  have OZ:=ħ (O6.o.setCell (p:=⟨ob,2,none⟩) (.slice (some ⟨g6,off6,none⟩) (un+1) c6) (fun e=>by
   have e:g6=ob:=Option.some.inj e
   have:=HG6.o
   have:=Z9.o
   omega))
  have BZ:=ħ (B6.o.setCell (p:=⟨ob,2,none⟩) (by show w.heap.size≤ob;have:=HX1.o;rw[HOB.o] at this;omega) (.slice (some ⟨g6,off6,none⟩) (un+1) c6))
  have ZZ:=ħ (Z6.o.off (p:=⟨ob,2,none⟩) (fun e=>by have e:w.heap.size+2=ob:=e;have:=HZ1.o;rw[HOB.o] at this;omega) (.slice (some ⟨g6,off6,none⟩) (un+1) c6))
  clear S6 O6 B6 Z6
  go_wp2_with fail
  refine Zaa (Zav (Zab rfl ?_))
  go_wp2_with fail
  refine Zaa (Zcb ?_)
  clear c8 f8
  generalize wq.setCell ⟨ob,2,none⟩ (.slice (some ⟨g6,off6,none⟩) (un+1) c6)=wz at *
  go_wp2_with (first | (refine wpList_load_row rfl 26 (.tmp 5) rfl (ob) ?yA1 26 #[.slice qo qn qc,.slice mo mn mc,.slice (some ⟨g6,off6,none⟩) (un+1) c6] (0,0) _ SZ.o Tryz.underlying26 rfl (Za0 _ _ _) ?_;(case yA1=>rfl)) | (refine Zas rfl 26 (.tmp 4) (.tmp 15) rfl (w.heap.size+2) #[.slice qo qn qc,.slice mo mn mc,.slice (some ⟨g6,off6,none⟩) (un+1) c6] (by rfl) (by rfl) 26 _ ZZ.o (Za0 _ _ _) rfl (by simp[Value.oneCell']) ?_;intro w11 s11 u11;have S11:=ħ s11;have U11:=ħ u11;clear s11 u11))
  refine bodyPost_ret (results_cell_row (p:=4) (by kernel_rfl) _ _ (w.heap.size+2) 26 #[.slice qo qn qc,.slice mo mn mc,.slice (some ⟨g6,off6,none⟩) (un+1) c6] (0,0) _ rfl S11.o Tryz.underlying26 rfl (Za0 _ _ _)) rfl ⟨⟨g6,off6,c6,rfl,?_⟩,U11.o.below BZ.o (by omega)⟩
  exact ((OZ.o.upd U11.o (fun e=>by
   have e:g6=w.heap.size+2:=Option.some.inj e
   have:=HG6.o
   have:=HZ1.o
   have:=Z9.o
   have:=HOB.o
   omega)).lower (by have:=Z9.o;have:=HX1.o;have:=HOB.o;omega))
 case hB =>
  intro listed a' w4 H hsn hall
  have hd3:Zxd (w.heap.size) (w.heap.size+1) ob w9.heap.size uo un uc us u0 u1 u2 u3 3 w4 (a'.tmps.getD 10 undef):=H.done 3 _ 10 rfl (hall 3 (by decide)) rfl
  have hd5:Zxd (w.heap.size) (w.heap.size+1) ob w9.heap.size uo un uc us u0 u1 u2 u3 5 w4 (a'.tmps.getD 12 undef):=H.done 5 _ 12 rfl (hall 5 (by decide)) rfl
  have hb4:=ħ H.below
  have hact:=H.actX hsn [7,8,9,10,11,12,14] (Zrf (by kernel_rfl))
  clear H hall hsn
  simp only[List.foldl_cons,List.foldl_nil] at hact
  generalize a'.tmps.getD 7 undef=z7 at *
  generalize a'.tmps.getD 8 undef=z8 at *
  generalize a'.tmps.getD 9 undef=z9 at *
  generalize a'.tmps.getD 10 undef=z10 at *
  generalize a'.tmps.getD 11 undef=z11 at *
  generalize a'.tmps.getD 12 undef=z12 at *
  generalize a'.tmps.getD 14 undef=z14 at *
  subst hact
  obtain⟨g5,off5,c5,e3,hO5⟩:=hd3
  subst e3
  obtain⟨V,e5,hV⟩:=hd5
  subst e5
  simp only[Act.put,List.setIfInBounds_toArray,List.set_cons_succ,List.set_cons_zero]
  have HO5:=ħ hO5
  have HV:=ħ hV
  have S4:=ħ (S9.o.step hb4.o)
  have B4:=ħ (L9.o.trans (hb4.o.mono L9.o.size))
  have Z4:=ħ (Z9r.o.step hb4.o)
  have K4:=ħ hb4.o.size
  clear hO5 hV hb4 HCB HXB HUF X9 Y9 Z9r L9
  refine Zav (Zab rfl ?_)
  refine Zsj 24 39 (.agg #[.int .i64 0,.int .i64 0,.int .i64 0,.int .i64 0]) 4 32 Tryz.underlying24 Zd5 rfl (by omega) (by omega) w4 w9.heap.size rfl (.tmp 10) (.tmp 12) rfl (some ⟨g5,off5,none⟩) c5 un (us.flatMap Zbn) ?r1B HO5.o K4.o V 1 1 [.int .i64 u0,.int .i64 u1,.int .i64 u2,.int .i64 u3] 39 ?r2B HV.o rfl (by omega) ?r3B (by omega) ?_
  case r1B=>rfl
  case r2B=>rfl
  case r3B=>simp[Value.oneCell']
  intro g6 off6 c6 wq o6 b6
  have O6:Hid (OwnK wq w9.heap.size 4 (un+1) c6 ((us++[(⟨u0,u1,u2,u3⟩:Use)]).flatMap Zbn) (some ⟨g6,off6,none⟩)):=ħ (by rw[List.flatMap_append];exact o6)
  have S6:=ħ (S4.o.below b6 Z9.o)
  have Z6:=ħ (Z4.o.below b6 (Nat.lt_trans HZ1.o (by rw[HOB.o];exact Z9.o)))
  have B6:=ħ (B4.o.trans (b6.mono (Nat.le_trans (Nat.le_of_lt (Nat.lt_of_lt_of_le HX1.o (by rw[HOB.o];exact Nat.le_of_lt Z9.o))) (Nat.le_refl _))))
  have HG6:Hid (w9.heap.size≤g6):=ħ (O6.o.blk_lt rfl).1
  clear o6 b6 S4 Z4 B4 HO5 HV K4
  have c8:=S6.o.cell 2 _ rfl
  have f8:=S6.o.warm 2
  have SZ:Hid (Zaf (wq.setCell ⟨ob,2,none⟩ (.slice (some ⟨g6,off6,none⟩) (un+1) c6)) ob 26 [.slice qo qn qc,.slice mo mn mc,.slice (some ⟨g6,off6,none⟩) (un+1) c6]):=ħ (S6.o.set 2 _)
  have OZ:=ħ (O6.o.setCell (p:=⟨ob,2,none⟩) (.slice (some ⟨g6,off6,none⟩) (un+1) c6) (fun e=>by
   have e:g6=ob:=Option.some.inj e
   have:=HG6.o
   have:=Z9.o
   omega))
  have BZ:=ħ (B6.o.setCell (p:=⟨ob,2,none⟩) (by show w.heap.size≤ob;have:=HX1.o;rw[HOB.o] at this;omega) (.slice (some ⟨g6,off6,none⟩) (un+1) c6))
  have ZZ:=ħ (Z6.o.off (p:=⟨ob,2,none⟩) (fun e=>by have e:w.heap.size+2=ob:=e;have:=HZ1.o;rw[HOB.o] at this;omega) (.slice (some ⟨g6,off6,none⟩) (un+1) c6))
  clear S6 O6 B6 Z6
  go_wp2_with fail
  refine Zaa (Zav (Zab rfl ?_))
  go_wp2_with fail
  refine Zaa (Zav (Zab rfl ?_))
  go_wp2_with fail
  refine Zaa (Zcb ?_)
  clear c8 f8
  generalize wq.setCell ⟨ob,2,none⟩ (.slice (some ⟨g6,off6,none⟩) (un+1) c6)=wz at *
  go_wp2_with (first | (refine wpList_load_row rfl 26 (.tmp 5) rfl (ob) ?yB1 26 #[.slice qo qn qc,.slice mo mn mc,.slice (some ⟨g6,off6,none⟩) (un+1) c6] (0,0) _ SZ.o Tryz.underlying26 rfl (Za0 _ _ _) ?_;(case yB1=>rfl)) | (refine Zas rfl 26 (.tmp 4) (.tmp 15) rfl (w.heap.size+2) #[.slice qo qn qc,.slice mo mn mc,.slice (some ⟨g6,off6,none⟩) (un+1) c6] (by rfl) (by rfl) 26 _ ZZ.o (Za0 _ _ _) rfl (by simp[Value.oneCell']) ?_;intro w11 s11 u11;have S11:=ħ s11;have U11:=ħ u11;clear s11 u11))
  refine bodyPost_ret (results_cell_row (p:=4) (by kernel_rfl) _ _ (w.heap.size+2) 26 #[.slice qo qn qc,.slice mo mn mc,.slice (some ⟨g6,off6,none⟩) (un+1) c6] (0,0) _ rfl S11.o Tryz.underlying26 rfl (Za0 _ _ _)) rfl ⟨⟨g6,off6,c6,rfl,?_⟩,U11.o.below BZ.o (by omega)⟩
  exact ((OZ.o.upd U11.o (fun e=>by
   have e:g6=w.heap.size+2:=Option.some.inj e
   have:=HG6.o
   have:=HZ1.o
   have:=Z9.o
   have:=HOB.o
   omega)).lower (by have:=Z9.o;have:=HX1.o;have:=HOB.o;omega))
end
section
open Go.RowKit Go.Sort Go.Maps
theorem Zuh (w:World) (c:Crw) (cs:List Value) (B:Nat) (x:Use) (ha:ArgC w c cs B) :
  Calls Tryz.prog 39 #[.agg cs.toArray,.agg (Zbn x).toArray] w fun e w'=>Below w.heap.size w w'∧∃ o cap,e = .returned (.slice o (Zed c x).length cap)∧Zal Zbg w' o ((Zed c x).map Int.ofNat):=by
 refine (Zpd w c cs B x ha).mono ?_
 intro e w' h
 unfold Zge at h
 obtain⟨⟨o,cap,h1,h2⟩,hb⟩:=h
 exact⟨hb,o,cap,h1,Zcw h2 rfl⟩
theorem Zmt {k:Int} {l:List Int}:Zn3 [k] l=l.any (fun y=>k==y):=by
 unfold Zn3
 rw[List.all_cons,List.all_nil,Bool.and_true]
theorem Zxe (k:Int) (l:List Int):l.any (fun y=>k==y)=l.any (fun y=>y==k):=by
 rw[Bool.eq_iff_iff,List.any_eq_true,List.any_eq_true]
 constructor
 ·rintro⟨y,h1,h2⟩;exact⟨y,h1,by rw[beq_iff_eq] at h2 ⊢;exact h2.symm⟩
 ·rintro⟨y,h1,h2⟩;exact⟨y,h1,by rw[beq_iff_eq] at h2 ⊢;exact h2.symm⟩
theorem Zui {w:World} {c:Crw} {qo mo uo:Option Addr} {qn mn un qc mc uc B:Nat} (h:ArgC w c [.slice qo qn qc,.slice mo mn mc,.slice uo un uc] B) (x:Use) {g off cap:Nat} {B0:Nat} (ho:OwnK w B0 4 (un+1) cap ((c.us++[x]).flatMap Zbn) (some ⟨g,off,none⟩)) (hn:un=c.us.length) (h9:c.us.length+1≤999):ArgC w (Zar c x) [.slice qo qn qc,.slice mo mn mc,.slice (some ⟨g,off,none⟩) (un+1) cap] B :=
 Zt7 h (ho.flatR Zbf (by simp;omega)) (by simp;omega) ho.len_le.1 (by simp;omega)
structure ToldP (c:Crw) (x:Use) (un mn:Nat) (vw:Bool) (l:List Int):Prop where
 none_:vw=false→l=[]
 same:vw=true→(Zgd (Zar c x) (un:Int)).map Int.ofNat=l
 len:l.length≤mn
 one:vw=true→∀ m,m<mn→l.any (fun y=>((m:Nat):Int)==y)=okH (Zar c x) (un:Int) (m:Int)∧isH (Zar c x) (un:Int) (m:Int)=!okH (Zar c x) (un:Int) (m:Int)
 elig:vw=true→∀ m,m<mn→okH (Zar c x) (un:Int) (m:Int)=true→Zqd c x (m:Int)=true
 q:vw=true→0≤x.q∧x.q≤129
 yes:vw=true→Zgt c [] x [⟨x.q,l.length⟩,⟨x.q+1,100⟩]=true
 no:vw=true→Zgt c [] x [⟨-1,l.length+1⟩]=false
theorem Zxf {c:Crw} (hv:Zak c=true) (hn:c.us.length≤998) (x:Use):ToldP c x c.us.length c.ms.length (Zak (Zar c x)) ((Zed c x).map Int.ofNat):=by
 have hU:(Zar c x).us.length=c.us.length+1:=by show (c.us++[x]).length=_;simp
 have hfx:Zak (Zar c x)=true→∀ m,m<c.ms.length→Zei (Zar c x) (c.us.length:Int) (m:Int)=true:=fun h m hm=>Zt4 h (by omega) (by rw[hU];omega) (by omega) (by exact hm)
 refine⟨fun h=>by rw[Zub hv (by omega) h];rfl,fun h=>by rw[Zmr hv (by omega) h],?_,fun h m hm=>⟨?_,Zy6 _ (hfx h m hm)⟩,fun h m hm ho=>Zud hv (by omega) h ho,fun h=>?_,fun h=>?_,fun h=>?_⟩
 ·rw[List.length_map]
  unfold Zed
  split
  ·exact Zbo _ _
  ·exact Nat.zero_le _
 ·rw[Zxe,Zmr hv (by omega) h,Zn0 (by rw[hU];omega) (hfx h m hm)]
 ·rw[Zdb hv (by omega)] at h
  have h1:=Zc6 h
  have h2:=(Zan hv).1
  omega
 ·have hq:0≤x.q:=by
   rw[Zdb hv (by omega)] at h
   exact (Zc6 h).1
  rw[Zms hv (by omega) h,List.length_map,Zn2 x.q _ hq (by omega)]
  simp
 ·rw[Zms hv (by omega) h,List.length_map,Zue x.q _ (by omega)]
  simp
  omega
theorem Zuj (w:World) (c:Crw) (cs:List Value) (B:Nat) (x:Use) (hcw:Zf6 w c cs) (hG:Tab w B) (hL:LenC c) (hby:∀ p∈c.qs,ByL p) (hnm:∀ m∈c.ms,∀ b∈m.b,NmL b.n) :
  Calls Tryz.prog 12 #[.agg cs.toArray,.agg (Zbn x).toArray] w fun e w'=>e = .returned (.bool true)∧Below w.heap.size w w':=by
 have HVC:=ħ (fun W (hc:Zf6 W c cs) (hT:Tab W B) (hok:CrwOk c)=>Zf8 W c cs hc B hT hok)
 have HTB:=ħ (fun W (hW:Below w.heap.size w W)=>Zbl.step (w:=w) hG hW)
 have HCW:=ħ (fun W (hW:Below w.heap.size w W)=>hcw.below hW)
 have HFK:=ħ (fun hf=>Zy4 (c:=c) hf hL hby hnm)
 have HFW:=ħ (fun W (hW:Below w.heap.size w W)=>Zw5 W c cs (hcw.below hW) hL)
 have hun:=hL.nu
 have hmn:=hL.nm
 have hqn:=hL.nq
 obtain⟨qo,qc,mo,mc,uo,uc,rfl,-⟩:=hcw
 clear hL hby hnm hG
 generalize hqe:c.qs.length=qn at *
 generalize hme:c.ms.length=mn at *
 generalize hue:c.us.length=un at *
 have HUE:=ħ hue
 have HME:=ħ hme
 have HQE:=ħ hqe
 clear hue hme hqe
 obtain⟨x0,x1,x2,x3⟩:=x
 have X1:=ħ (Zaf.new w 26 [.slice qo qn qc,.slice mo mn mc,.slice uo un uc])
 have Y1:=ħ (Zaf.new (w.alloc (.cells #[.slice qo qn qc,.slice mo mn mc,.slice uo un uc] 26)) 39 [.int .i64 x0,.int .i64 x1,.int .i64 x2,.int .i64 x3])
 have b1:=(Below.refl w.heap.size w).alloc (Nat.le_refl _) (.cells #[.slice qo qn qc,.slice mo mn mc,.slice uo un uc] 26)
 have b2:=b1.alloc b1.size (.cells #[.int .i64 x0,.int .i64 x1,.int .i64 x2,.int .i64 x3] 39)
 have e1:(w.alloc (.cells #[.slice qo qn qc,.slice mo mn mc,.slice uo un uc] 26)).heap.size=w.heap.size+1:=by rw[World.size_alloc]
 have Y1:Hid (Zaf ((w.alloc (.cells #[.slice qo qn qc,.slice mo mn mc,.slice uo un uc] 26)).alloc (.cells #[.int .i64 x0,.int .i64 x1,.int .i64 x2,.int .i64 x3] 39)) (w.heap.size+1) 39 [.int .i64 x0,.int .i64 x1,.int .i64 x2,.int .i64 x3]):=ħ (by have:=Y1.o;rw[e1] at this;exact this)
 have X1:Hid (Zaf ((w.alloc (.cells #[.slice qo qn qc,.slice mo mn mc,.slice uo un uc] 26)).alloc (.cells #[.int .i64 x0,.int .i64 x1,.int .i64 x2,.int .i64 x3] 39)) w.heap.size 26 [.slice qo qn qc,.slice mo mn mc,.slice uo un uc]):=ħ (X1.o.step ((Below.refl _ _).alloc (Nat.le_refl _) (.cells #[.int .i64 x0,.int .i64 x1,.int .i64 x2,.int .i64 x3] 39)))
 have B1:=ħ b2
 clear b1 b2 e1
 change Calls Tryz.prog 12 #[.agg #[.slice qo qn qc,.slice mo mn mc,.slice uo un uc],.agg #[.int .i64 x0,.int .i64 x1,.int .i64 x2,.int .i64 x3]] w _
 go_enter Tryz.func12,Tryz.ntmps12
 go_upto_region 1 with (fail)
 generalize (w.alloc (.cells #[.slice qo qn qc,.slice mo mn mc,.slice uo un uc] 26)).alloc (.cells #[.int .i64 x0,.int .i64 x1,.int .i64 x2,.int .i64 x3] 39)=w1 at *
 go_wp2_with fail
 refine (Ztx w1 B (HTB.o w1 B1.o)).mono ?_
 rintro e w2 ⟨rfl,b2⟩
 have X2:=ħ (X1.o.step b2)
 have Y2:=ħ (Y1.o.step b2)
 have B2:=ħ (B1.o.trans (b2.mono B1.o.size))
 clear b2 X1 B1 Y1
 go_upto_region 2 with (fail)
 go_wp2_with (refine wpList_load_row rfl 26 (.tmp 2) rfl (w.heap.size) ?x1 26 #[.slice qo qn qc,.slice mo mn mc,.slice uo un uc] (0,0) _ X2.o Tryz.underlying26 rfl (Za0 _ _ _) ?_;(case x1=>rfl))
 refine (HFW.o w2 B2.o).mono ?_
 rintro e w3 ⟨rfl,b3⟩
 have X3:=ħ (X2.o.step b3)
 have Y3:=ħ (Y2.o.step b3)
 have B3:=ħ (B2.o.trans (b3.mono B2.o.size))
 clear b3 X2 B2 HFW Y2
 obtain⟨V,hV⟩:∃ V,Zz0 c=V:=⟨_,rfl⟩
 rw[hV]
 have HV:=ħ hV
 clear hV
 cases V with
 | false =>
  go_wp2_with fail
  go_ret
  exact⟨rfl,B3.o⟩
 | true =>
  obtain⟨hok,h999,h65,h129⟩:=HFK.o HV.o
  have HOK:=ħ hok
  clear hok
  have HAG:=ħ (fun W (hW:Below w.heap.size w W)=>(⟨HCW.o W hW,HTB.o W hW,HOK.o,by rw[HUE.o];exact h999⟩:ArgC W c [.slice qo qn qc,.slice mo mn mc,.slice uo un uc] B))
  clear HFK HTB HCW HOK
  have HVC:=ħ (fun W (hW:Below w.heap.size w W)=>HVC.o W (HAG.o W hW).crw (HAG.o W hW).tab (HAG.o W hW).ok)
  go_wp2_with (refine Zao (by rfl) 26 (.tmp 2) rfl (w.heap.size) ?x2 26 #[.slice qo qn qc,.slice mo mn mc,.slice uo un uc] (0,0) _ X3.o Tryz.underlying26 rfl (Za0 _ _ _) ?_;(case x2=>rfl))
  refine (HVC.o w3 B3.o).mono ?_
  rintro e w4 ⟨rfl,b4⟩
  have X4:=ħ (X3.o.step b4)
  have Y4:=ħ (Y3.o.step b4)
  have B4:=ħ (B3.o.trans (b4.mono B3.o.size))
  clear b4 X3 B3 HVC Y3
  obtain⟨vv,hvv⟩:∃ x,Zak c=x:=⟨_,rfl⟩
  rw[hvv]
  cases vv with
  | false =>
   go_wp2_with fail
   go_ret
   exact⟨rfl,B4.o⟩
  | true =>
  have HVV:=ħ hvv
  clear hvv
  have c2:=X4.o.cell 2 _ rfl
  have c1:=X4.o.cell 1 _ rfl
  by_cases h1:(5:Int)<(un:Int)
  ·go_wp2_with fail
   go_ret
   exact⟨rfl,B4.o⟩
  by_cases h2:(6:Int)<(mn:Int)
  ·go_wp2_with fail
   go_ret
   exact⟨rfl,B4.o⟩
  have HTP0:Hid (ToldP c (⟨x0,x1,x2,x3⟩:Use) un mn (Zak (Zar c (⟨x0,x1,x2,x3⟩:Use))) ((Zed c (⟨x0,x1,x2,x3⟩:Use)).map Int.ofNat)):=ħ (by
   have:=Zxf (c:=c) HVV.o (by rw[HUE.o];omega) (⟨x0,x1,x2,x3⟩:Use)
   rwa [HUE.o,HME.o] at this)
  have HTD:=ħ (fun W (hW:Below w.heap.size w W)=>Zuh W c _ B (⟨x0,x1,x2,x3⟩:Use) (HAG.o W hW))
  have HTL:Hid ((Zed c (⟨x0,x1,x2,x3⟩:Use)).length=((Zed c (⟨x0,x1,x2,x3⟩:Use)).map Int.ofNat).length):=ħ (by rw[List.length_map])
  have HWT:=ħ (fun W (hW:Below w.heap.size w W)=>Zug W c _ (⟨x0,x1,x2,x3⟩:Use) (HAG.o W hW).crw (by rw[HUE.o];exact h999))
  rw[HUE.o] at HWT
  have HVW:=ħ (fun W cs' (ha:ArgC W (Zar c (⟨x0,x1,x2,x3⟩:Use)) cs' B)=>Zf8 W (Zar c (⟨x0,x1,x2,x3⟩:Use)) cs' ha.crw B ha.tab ha.ok)
  have HPO:=ħ (fun W cs' (ha:ArgC W (Zar c (⟨x0,x1,x2,x3⟩:Use)) cs' B)=>Zt6 W (Zar c (⟨x0,x1,x2,x3⟩:Use)) cs' B (un:Int) ha)
  have HWI:=ħ (fun W cs' (m:Nat) (ha:ArgC W (Zar c (⟨x0,x1,x2,x3⟩:Use)) cs' B)=>Zxa W (Zar c (⟨x0,x1,x2,x3⟩:Use)) cs' B (un:Int) (m:Int) ha)
  have HBI:=ħ (fun W cs' (m:Nat) (ha:ArgC W (Zar c (⟨x0,x1,x2,x3⟩:Use)) cs' B)=>Zxb W (Zar c (⟨x0,x1,x2,x3⟩:Use)) cs' B (un:Int) (m:Int) ha)
  have HEL:=ħ (fun W (m:Nat) (hW:Below w.heap.size w W)=>Zwe W c _ B (⟨x0,x1,x2,x3⟩:Use) (m:Int) (HAG.o W hW))
  have HKE:=ħ (fun W l lo lc (hW:Below w.heap.size w W) (hl:Zal Zti W lo l) (hll:l.length≤1000000)=>Zmn W c _ B [] none 0 (⟨x0,x1,x2,x3⟩:Use) l lo lc (HAG.o W hW) (.inl rfl) (by simp) hl hll)
  have HPL:Hid ((Zgd (Zar c (⟨x0,x1,x2,x3⟩:Use)) (un:Int)).length=((Zgd (Zar c (⟨x0,x1,x2,x3⟩:Use)) (un:Int)).map Int.ofNat).length):=ħ (by rw[List.length_map])
  rw[HTL.o] at HTD
  rw[HPL.o] at HPO
  obtain⟨vw,hvw⟩:∃ b,Zak (Zar c (⟨x0,x1,x2,x3⟩:Use))=b:=⟨_,rfl⟩
  obtain⟨tl,htl⟩:∃ l,(Zed c (⟨x0,x1,x2,x3⟩:Use)).map Int.ofNat=l:=⟨_,rfl⟩
  rw[hvw,htl] at HTP0
  rw[hvw] at HVW
  rw[htl] at HTD
  clear hvw htl HTL HPL
  have htn:=HTP0.o.len
  go_upto_region 4 with (fail)
  clear c1 c2
  go_wp2_with (first | (refine wpList_load_row rfl 26 (.tmp 2) rfl (w.heap.size) ?l1 26 #[.slice qo qn qc,.slice mo mn mc,.slice uo un uc] (0,0) _ X4.o Tryz.underlying26 rfl (Za0 _ _ _) ?_;(case l1=>rfl)) | (refine wpList_load_row rfl 39 (.tmp 3) rfl (w.heap.size+1) ?l2 39 #[.int .i64 x0,.int .i64 x1,.int .i64 x2,.int .i64 x3] (0,0) _ Y4.o Tryz.underlying39 rfl (Zee _ _ _ _) ?_;(case l2=>rfl)))
  refine (HTD.o w4 B4.o).mono ?_
  rintro e w5 ⟨b5,o5,c5,rfl,hf5⟩
  have X5:=ħ (X4.o.step b5)
  have Y5:=ħ (Y4.o.step b5)
  have B5:=ħ (B4.o.trans (b5.mono B4.o.size))
  have HF5:=ħ (fun W (hW:Below w5.heap.size w5 W)=>hf5.below hW)
  clear b5 X4 Y4 B4 HTD hf5
  go_upto_region 5 with (fail)
  go_wp2_with (first | (refine wpList_load_row rfl 26 (.tmp 2) rfl (w.heap.size) ?l3 26 #[.slice qo qn qc,.slice mo mn mc,.slice uo un uc] (0,0) _ X5.o Tryz.underlying26 rfl (Za0 _ _ _) ?_;(case l3=>rfl)) | (refine wpList_load_row rfl 39 (.tmp 3) rfl (w.heap.size+1) ?l4 39 #[.int .i64 x0,.int .i64 x1,.int .i64 x2,.int .i64 x3] (0,0) _ Y5.o Tryz.underlying39 rfl (Zee _ _ _ _) ?_;(case l4=>rfl)))
  refine (HWT.o w5 B5.o).mono ?_
  rintro e w6 ⟨⟨gw,ow,cw,rfl,how⟩,b6⟩
  have hset:([.slice qo qn qc,.slice mo mn mc,.slice uo un uc]:List Value).set 2 (.slice (some ⟨gw,ow,none⟩) (un+1) cw)=[.slice qo qn qc,.slice mo mn mc,.slice (some ⟨gw,ow,none⟩) (un+1) cw]:=rfl
  rw[hset]
  clear hset
  have L6:=ħ b6
  have HOW:=ħ how
  have X6:=ħ (X5.o.step b6)
  have Y6:=ħ (Y5.o.step b6)
  have B6:=ħ (B5.o.trans (b6.mono B5.o.size))
  clear b6 X5 Y5 B5 HWT how
  have O6:Hid (Zaf (w6.alloc (.cells #[.slice none 0 0,.slice none 0 0,.slice none 0 0] 26)) w6.heap.size 26 [.slice none 0 0,.slice none 0 0,.slice none 0 0]):=ħ (heap_alloc_new w6 _)
  have BO:=ħ ((Below.refl w6.heap.size w6).alloc (Nat.le_refl _) (.cells #[.slice none 0 0,.slice none 0 0,.slice none 0 0] 26))
  go_upto_region 6 with (refine Zas rfl 26 (.tmp 7) (.tmp 43) rfl w6.heap.size #[.slice qo qn qc,.slice mo mn mc,.slice (some ⟨gw,ow,none⟩) (un+1) cw] (by rfl) (by rfl) 26 _ O6.o (Za0 _ _ _) rfl (by simp[Value.oneCell']) ?_;intro w7 s9 u9;have S9:=ħ s9;have U9:=ħ u9;clear s9 u9)
  have A7:=ħ (U9.o.below BO.o (Nat.le_refl _))
  have S7:Hid (Zaf w7 w6.heap.size 26 [.slice qo qn qc,.slice mo mn mc,.slice (some ⟨gw,ow,none⟩) (un+1) cw]):=ħ S9.o
  have X7:=ħ (X6.o.step A7.o)
  have Y7:=ħ (Y6.o.step A7.o)
  have B7:=ħ (B6.o.trans (A7.o.mono B6.o.size))
  have L7:=ħ (L6.o.trans (A7.o.mono L6.o.size))
  have OW7:=ħ (HOW.o.below A7.o)
  obtain⟨ab,hab⟩:∃ n,w6.heap.size=n:=⟨_,rfl⟩
  rw[hab] at S7 ⊢
  clear O6 BO U9 S9 A7 X6 Y6 B6 L6 HOW hab
  have HA2:=ħ (fun W (hW:Below w7.heap.size w7 W)=>Zui (HAG.o W (B7.o.trans (hW.mono B7.o.size))) (⟨x0,x1,x2,x3⟩:Use) (OW7.o.below hW) HUE.o.symm (by rw[HUE.o];omega))
  have HF7:=ħ (fun W (hW:Below w7.heap.size w7 W)=>HF5.o W (L7.o.trans (hW.mono L7.o.size)))
  clear OW7 L7 HF5
  go_wp2_with (refine wpList_load_row rfl 26 (.tmp 7) rfl (ab) ?l5 26 #[.slice qo qn qc,.slice mo mn mc,.slice (some ⟨gw,ow,none⟩) (un+1) cw] (0,0) _ S7.o Tryz.underlying26 rfl (Za0 _ _ _) ?_;(case l5=>rfl))
  refine (HVW.o w7 _ (HA2.o w7 (Below.refl _ _))).mono ?_
  rintro e w8 ⟨rfl,b8⟩
  have X8:=ħ (X7.o.step b8)
  have Y8:=ħ (Y7.o.step b8)
  have S8:=ħ (S7.o.step b8)
  have B8:=ħ (B7.o.trans (b8.mono B7.o.size))
  have L8:=ħ b8
  clear b8 HVW
  cases vw with
  | false =>
   have htl:=HTP0.o.none_ rfl
   subst htl
   go_wp2_with fail
   go_ret
   exact⟨rfl,B8.o⟩
  | true =>
   have c2:=X8.o.cell 2 _ rfl
   go_upto_region 9 with (fail)
   clear c2
   go_wp2_with (refine wpList_load_row rfl 26 (.tmp 7) rfl (ab) ?l6 26 #[.slice qo qn qc,.slice mo mn mc,.slice (some ⟨gw,ow,none⟩) (un+1) cw] (0,0) _ S8.o Tryz.underlying26 rfl (Za0 _ _ _) ?_;(case l6=>rfl))
   refine (HPO.o w8 _ (HA2.o w8 L8.o)).mono ?_
   rintro e w9 ⟨b9,po,pc,rfl,hf9⟩
   have X9:=ħ (X8.o.step b9)
   have Y9:=ħ (Y8.o.step b9)
   have S9:=ħ (S8.o.step b9)
   have B9:=ħ (B8.o.trans (b9.mono B8.o.size))
   have L9:=ħ (L8.o.trans (b9.mono L8.o.size))
   have HSM:=ħ (Zh9 w9 tl _ o5 po c5 pc (HF7.o w9 L9.o) hf9 (by omega))
   rw[HTP0.o.same rfl,decide_eq_true rfl] at HSM
   rw[HTP0.o.same rfl]
   clear b9 X8 Y8 S8 B8 L8 hf9 HPO
   go_wp2_with fail
   refine HSM.o.mono ?_
   rintro e wl ⟨rfl,bl⟩
   have XL:=ħ (fun W (hW:Below wl.heap.size wl W)=>(X9.o.step bl).step hW)
   have YL:=ħ (fun W (hW:Below wl.heap.size wl W)=>(Y9.o.step bl).step hW)
   have SL:=ħ (fun W (hW:Below wl.heap.size wl W)=>(S9.o.step bl).step hW)
   have BL:=ħ (B9.o.trans (bl.mono B9.o.size))
   have LL:=ħ (L9.o.trans (bl.mono L9.o.size))
   have HAL:=ħ (fun W (hW:Below wl.heap.size wl W)=>HA2.o W (LL.o.trans (hW.mono LL.o.size)))
   have HFL:=ħ (fun W (hW:Below wl.heap.size wl W)=>HF7.o W (LL.o.trans (hW.mono LL.o.size)))
   have HBL:=ħ (fun W (hW:Below wl.heap.size wl W)=>BL.o.trans (hW.mono BL.o.size))
   clear bl X9 Y9 S9 B9 L9 HSM HA2 HF7 LL X7 Y7 S7 B7
   have HP:=HTP0
   obtain⟨tn,htn2⟩:∃ n,tl.length=n:=⟨_,rfl⟩
   have HTN:=ħ htn2
   rw[htn2] at htn ⊢
   clear htn2 HTP0
   go_upto_region 12 with (fail)
   go_wp2_with fail
   go_loopw [9] (fun iv wr=>∃ (k:Nat),iv = .int .i64 k∧k≤mn∧Hid (Below wl.heap.size wl wr)) (fun i _=>(mn-intOf i).toNat)
   case atStart=>exact⟨0,rfl,by omega,ħ (Below.refl _ _)⟩
   case round =>
    obtain⟨k,rfl,hk,LR⟩:=hrel
    have e2:IntKind.i64.wrap ((k:Int)+1)=((k+1:Nat):Int):=IntWalk.i64_in _ (by omega)
    have c1:=(XL.o wr LR.o).cell 1 _ rfl
    by_cases hkn:k<mn
    ·have kk:(k:Int)<mn:=by omega
     obtain⟨ho1,ho2⟩:=HP.o.one rfl k hkn
     have ho3:=HP.o.elig rfl k hkn
     have HW1:=ħ (HWI.o wr _ k (HAL.o wr LR.o))
     have HB1:=ħ (fun W (hW:Below wl.heap.size wl W)=>HBI.o W _ k (HAL.o W hW))
     have HU1:Hid ((Zar c (⟨x0,x1,x2,x3⟩:Use)).us.length=un+1):=ħ (by rw[← HUE.o];show (c.us++[(⟨x0,x1,x2,x3⟩:Use)]).length=_;simp)
     rw[HU1.o] at HW1
     clear HU1
     obtain⟨ok,hok⟩:∃ b,okH (Zar c (⟨x0,x1,x2,x3⟩:Use)) (un:Int) (k:Int)=b:=⟨_,rfl⟩
     rw[hok] at ho1 ho2 ho3 HW1
     rw[ho2] at HB1
     have HO1:=ħ ho1
     have HO3:=ħ ho3
     clear ho1 ho2 ho3 hok
     have SR:=ħ (SL.o wr LR.o)
     go_upto_region 14 with (fail)
     clear c1
     go_wp2_with (refine wpList_load_row rfl 26 (.tmp 7) rfl (ab) ?l7 26 #[.slice qo qn qc,.slice mo mn mc,.slice (some ⟨gw,ow,none⟩) (un+1) cw] (0,0) _ SR.o Tryz.underlying26 rfl (Za0 _ _ _) ?_;(case l7=>rfl))
     refine HW1.o.mono ?_
     rintro e wa ⟨ba,hra⟩
     have LA:=ħ (LR.o.trans (ba.mono LR.o.size))
     clear ba HW1 SR LR
     have SA:=ħ (SL.o wa LA.o)
     cases ok with
     | true =>
      rw[if_pos rfl] at hra
      obtain⟨ao,ac,rfl,-⟩:=hra
      go_upto_region 15 with (fail)
      go_wp2_with (refine wpList_load_row rfl 26 (.tmp 7) rfl (ab) ?l81 26 #[.slice qo qn qc,.slice mo mn mc,.slice (some ⟨gw,ow,none⟩) (un+1) cw] (0,0) _ SA.o Tryz.underlying26 rfl (Za0 _ _ _) ?_;(case l81=>rfl))
      refine (HB1.o wa LA.o).mono ?_
      rintro e wb ⟨bb,hrb⟩
      have LB:=ħ (LA.o.trans (bb.mono LA.o.size))
      clear bb SA LA HB1
      rw[if_neg (by decide)] at hrb
      subst hrb
      have EV:Hid (Zaf (wb.alloc (.cells #[.int .i64 (k:Nat)] 3)) wb.heap.size 3 (ivs [((k:Nat):Int)])):=ħ (heap_alloc_new wb _)
      have BE:=ħ ((Below.refl wb.heap.size wb).alloc (Nat.le_refl _) (.cells #[.int .i64 (k:Nat)] 3))
      have LE:=ħ (LB.o.trans (BE.o.mono LB.o.size))
      have HSB:=Zph (wb.alloc (.cells #[.int .i64 (k:Nat)] 3)) [((k:Nat):Int)] tl (some ⟨wb.heap.size,0,none⟩) o5 1 c5 EV.o.flatI (HFL.o _ LE.o) (by simp) (by rw[HTN.o];omega)
      rw[Zmt,HO1.o,HTN.o] at HSB
      have HSB:Hid (Calls Tryz.prog 26 #[.slice (some ⟨wb.heap.size,0,none⟩) 1 1,.slice o5 tn c5] (wb.alloc (.cells #[.int .i64 (k:Nat)] 3)) fun e w'=>e = .returned (.bool true)∧Below (wb.alloc (.cells #[.int .i64 (k:Nat)] 3)).heap.size (wb.alloc (.cells #[.int .i64 (k:Nat)] 3)) w'):=ħ HSB
      go_wp2_with fail
      refine HSB.o.mono ?_
      rintro e wc ⟨rfl,bc2⟩
      have LC:=ħ (LE.o.trans (bc2.mono LE.o.size))
      clear bc2 HSB EV BE LE LB HO1
      have XC:=ħ (XL.o wc LC.o)
      have YC:=ħ (YL.o wc LC.o)
      go_wp2_with (first | (refine Zao (by rfl) 26 (.tmp 2) rfl (w.heap.size) ?l9 26 #[.slice qo qn qc,.slice mo mn mc,.slice uo un uc] (0,0) _ XC.o Tryz.underlying26 rfl (Za0 _ _ _) ?_;(case l9=>rfl)) | (refine Zao (by rfl) 39 (.tmp 3) rfl (w.heap.size+1) ?l10 39 #[.int .i64 x0,.int .i64 x1,.int .i64 x2,.int .i64 x3] (0,0) _ YC.o Tryz.underlying39 rfl (Zee _ _ _ _) ?_;(case l10=>rfl)))
      refine (HEL.o wc k (HBL.o wc LC.o)).mono ?_
      rintro e wd ⟨rfl,bd⟩
      rw[HO3.o (by trivial)]
      have LC:=ħ (LC.o.trans (bd.mono LC.o.size))
      clear bd XC YC
      go_wp2_with fail
      go_roundw
      case rel=>exact⟨k+1,by go_num,by omega,LC⟩
      case measure=>simp only[intOf];omega
     | false =>
      rw[if_neg (by decide)] at hra
      subst hra
      go_upto_region 15 with (fail)
      go_wp2_with (refine wpList_load_row rfl 26 (.tmp 7) rfl (ab) ?l80 26 #[.slice qo qn qc,.slice mo mn mc,.slice (some ⟨gw,ow,none⟩) (un+1) cw] (0,0) _ SA.o Tryz.underlying26 rfl (Za0 _ _ _) ?_;(case l80=>rfl))
      refine (HB1.o wa LA.o).mono ?_
      rintro e wb ⟨bb,hrb⟩
      have LB:=ħ (LA.o.trans (bb.mono LA.o.size))
      clear bb SA LA HB1
      rw[if_pos (by decide)] at hrb
      obtain⟨bo,bc,rfl,-⟩:=hrb
      have EV:Hid (Zaf (wb.alloc (.cells #[.int .i64 (k:Nat)] 3)) wb.heap.size 3 (ivs [((k:Nat):Int)])):=ħ (heap_alloc_new wb _)
      have BE:=ħ ((Below.refl wb.heap.size wb).alloc (Nat.le_refl _) (.cells #[.int .i64 (k:Nat)] 3))
      have LE:=ħ (LB.o.trans (BE.o.mono LB.o.size))
      have HSB:=Zph (wb.alloc (.cells #[.int .i64 (k:Nat)] 3)) [((k:Nat):Int)] tl (some ⟨wb.heap.size,0,none⟩) o5 1 c5 EV.o.flatI (HFL.o _ LE.o) (by simp) (by rw[HTN.o];omega)
      rw[Zmt,HO1.o,HTN.o] at HSB
      have HSB:Hid (Calls Tryz.prog 26 #[.slice (some ⟨wb.heap.size,0,none⟩) 1 1,.slice o5 tn c5] (wb.alloc (.cells #[.int .i64 (k:Nat)] 3)) fun e w'=>e = .returned (.bool false)∧Below (wb.alloc (.cells #[.int .i64 (k:Nat)] 3)).heap.size (wb.alloc (.cells #[.int .i64 (k:Nat)] 3)) w'):=ħ HSB
      go_wp2_with fail
      refine HSB.o.mono ?_
      rintro e wc ⟨rfl,bc2⟩
      have LC:=ħ (LE.o.trans (bc2.mono LE.o.size))
      clear bc2 HSB EV BE LE LB HO1
      go_wp2_with fail
      go_roundw
      case rel=>exact⟨k+1,by go_num,by omega,LC⟩
      case measure=>simp only[intOf];omega
    ·have kk:¬ (k:Int)<mn:=by omega
     have hq:=HP.o.q rfl
     have HY:=ħ (HP.o.yes rfl)
     have HN:=ħ (HP.o.no rfl)
     rw[HTN.o] at HY HN
     have YR:=ħ (YL.o wr LR.o)
     have p0:=YR.o.cell 0 _ rfl
     have hq0:0≤x0∧x0≤129:=hq
     have eq1:IntKind.i64.wrap (x0+1)=x0+1:=IntWalk.i64_in _ (by omega)
     have en1:IntKind.i64.wrap ((tn:Int)+1)=(tn:Int)+1:=IntWalk.i64_in _ (by omega)
     have W1:Hid (Zaf (wr.alloc (.cells #[.int .i64 x0,.int .i64 (tn:Nat),.int .i64 (x0+1),.int .i64 100] 79)) wr.heap.size 79 ([(⟨x0,(tn:Nat)⟩:Wsh),⟨x0+1,100⟩].flatMap Zti)):=ħ (heap_alloc_new wr _)
     have BW1:=ħ ((Below.refl wr.heap.size wr).alloc (Nat.le_refl _) (.cells #[.int .i64 x0,.int .i64 (tn:Nat),.int .i64 (x0+1),.int .i64 100] 79))
     have LW1:=ħ (LR.o.trans (BW1.o.mono LR.o.size))
     clear hq
     go_upto_region 19 with (fail)
     clear p0
     generalize wr.alloc (.cells #[.int .i64 x0,.int .i64 (tn:Nat),.int .i64 (x0+1),.int .i64 100] 79)=we at *
     obtain⟨eb,heb⟩:∃ n,wr.heap.size=n:=⟨_,rfl⟩
     rw[heb] at W1 ⊢
     have W2:Hid (Zaf (we.alloc (.cells #[.int .i64 (-1),.int .i64 ((tn:Int)+1)] 79)) we.heap.size 79 ([(⟨-1,(tn:Int)+1⟩:Wsh)].flatMap Zti)):=ħ (heap_alloc_new we _)
     have BW2:=ħ ((Below.refl we.heap.size we).alloc (Nat.le_refl _) (.cells #[.int .i64 (-1),.int .i64 ((tn:Int)+1)] 79))
     have W1:=ħ (W1.o.step BW2.o)
     have LW2:=ħ (LW1.o.trans (BW2.o.mono LW1.o.size))
     clear heb LR BW1 LW1
     go_upto_region 20 with (fail)
     generalize we.alloc (.cells #[.int .i64 (-1),.int .i64 ((tn:Int)+1)] 79)=wf at *
     obtain⟨fb,hfb⟩:∃ n,we.heap.size=n:=⟨_,rfl⟩
     rw[hfb] at W2 ⊢
     clear hfb BW2 YR
     have X12:=ħ (XL.o wf LW2.o)
     have Y12:=ħ (YL.o wf LW2.o)
     have HK1:=HKE.o wf [⟨x0,(tn:Nat)⟩,⟨x0+1,100⟩] (some ⟨eb,0,none⟩) 2 (HBL.o wf LW2.o) (.inr ⟨eb,0,rfl,W1.o.lt,W1.o.readsR⟩) (by simp)
     rw[HY.o] at HK1
     have HK1:=ħ HK1
     go_wp2_with (first | (refine Zao (by rfl) 26 (.tmp 2) rfl (w.heap.size) ?l11 26 #[.slice qo qn qc,.slice mo mn mc,.slice uo un uc] (0,0) _ X12.o Tryz.underlying26 rfl (Za0 _ _ _) ?_;(case l11=>rfl)) | (refine Zao (by rfl) 39 (.tmp 3) rfl (w.heap.size+1) ?l12 39 #[.int .i64 x0,.int .i64 x1,.int .i64 x2,.int .i64 x3] (0,0) _ Y12.o Tryz.underlying39 rfl (Zee _ _ _ _) ?_;(case l12=>rfl)))
     refine HK1.o.mono ?_
     rintro e wg ⟨rfl,bg⟩
     have LG:=ħ (LW2.o.trans (bg.mono LW2.o.size))
     have W2:=ħ (W2.o.step bg)
     clear bg X12 Y12 HK1 LW2 W1
     have X13:=ħ (XL.o wg LG.o)
     have Y13:=ħ (YL.o wg LG.o)
     have HK2:=HKE.o wg [⟨-1,(tn:Int)+1⟩] (some ⟨fb,0,none⟩) 1 (HBL.o wg LG.o) (.inr ⟨fb,0,rfl,W2.o.lt,W2.o.readsR⟩) (by simp)
     rw[HN.o] at HK2
     have HK2:=ħ HK2
     go_wp2_with (first | (refine Zao (by rfl) 26 (.tmp 2) rfl (w.heap.size) ?l13 26 #[.slice qo qn qc,.slice mo mn mc,.slice uo un uc] (0,0) _ X13.o Tryz.underlying26 rfl (Za0 _ _ _) ?_;(case l13=>rfl)) | (refine Zao (by rfl) 39 (.tmp 3) rfl (w.heap.size+1) ?l14 39 #[.int .i64 x0,.int .i64 x1,.int .i64 x2,.int .i64 x3] (0,0) _ Y13.o Tryz.underlying39 rfl (Zee _ _ _ _) ?_;(case l14=>rfl)))
     refine HK2.o.mono ?_
     rintro e wh ⟨rfl,bh⟩
     have LH:=ħ (LG.o.trans (bh.mono LG.o.size))
     go_wp2_with fail
     go_ret
     exact⟨rfl,HBL.o wh LH.o⟩
end
end Go.Proofs.YtbcgocpihobjnaaGreatDoor
