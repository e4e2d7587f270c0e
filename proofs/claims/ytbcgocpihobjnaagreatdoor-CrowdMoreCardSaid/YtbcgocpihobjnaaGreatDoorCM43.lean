import Derived.Test.YtbcgocpihobjnaaGreatDoorCM42
import Derived.Test.YtbcgocpihobjnaaGreatDoorCM39
import Derived.Test.YtbcgocpihobjnaaGreatDoorCM37
import Derived.Test.YtbcgocpihobjnaaGreatDoorCM33
import Derived.Test.YtbcgocpihobjnaaGreatDoorCM36
import Derived.Test.YtbcgocpihobjnaaGreatDoorCM23
import Derived.Test.YtbcgocpihobjnaaGreatDoorCM11
import Derived.Test.YtbcgocpihobjnaaGreatDoorCM40
set_option linter.all false
set_option maxHeartbeats 32000000
set_option maxRecDepth 100000
namespace Go.Proofs.YtbcgocpihobjnaaGreatDoor
section
open Go Go.ChangeShapes Go.WideShapes Go.ChangeAt Go.WideMaps Go.WideElems Go.RowKit
theorem Z3a:Tryz.prog.cellsOf 44=3:=by kernel_rfl
theorem Z2l:Tryz.prog.cellsOf 39=4:=by kernel_rfl
theorem cLP:Tryz.prog.cellsOf 22=1:=by kernel_rfl
theorem cLB:Tryz.prog.cellsOf 42=1:=by kernel_rfl
theorem cLI:Tryz.prog.cellsOf 33=1:=by kernel_rfl
theorem cLM:Tryz.prog.cellsOf 23=1:=by kernel_rfl
theorem cLS:Tryz.prog.cellsOf 24=1:=by kernel_rfl
instance:Inhabited Use:=⟨⟨0,0,0,0⟩⟩
instance:Inhabited Wsh:=⟨⟨0,0⟩⟩
instance:Inhabited Mem:=⟨⟨[],[],0⟩⟩
section
variable {H:Type} {enc:TypeId×Value→H} {W:World}
theorem Znw {fuel:Nat} {v:Value} {y:DataW H×List MemPlace} (h:DataW.trod enc Tryz.prog W 0 (fun _=>true) true fuel 33 [v]=some y) :
  ∃ (l:List Int) (ao:Option Addr) (n c:Nat),v = .slice ao n c∧n=l.length∧n≤c∧n≤9223372036854775807∧Zal Za9 W ao l:=by
 obtain⟨ao,n,c,e4,hmc,hcm,hel⟩:=Zco Tryz.underlying33 cI (by decide) h;have hlen:n≤9223372036854775807:=Nat.le_trans hmc (Nat.le_trans hcm (by decide));rcases hel with h0 | ⟨g,off,n',h1,h2,h3,h4⟩
 ·exact⟨[],ao,n,c,e4,h0,hmc,hlen,.inl rfl⟩
 ·obtain⟨l,hl,hk⟩:=Zd7 (α:=Int) n (fun i x=>W.cell? ⟨g,off+i,none⟩=some (.int .i64 x)) (fun i hi=>by
   obtain⟨cs,y,h5,h6,h7⟩:=h4 i hi
   match cs,h5 with
   | [c0],_ =>
    obtain⟨k,e0,-,-⟩:=DataW.trod_int Tryz.underlying3 h7;simp only[List.cons.injEq,and_true] at e0;subst e0;have:=h6 0 _ rfl;rw[Nat.mul_one,Nat.add_zero] at this
    exact⟨k,this⟩)
  refine⟨l,ao,n,c,e4,hl.symm,hmc,hlen,.inr ⟨g,off,h1,h2,fun j u hj=>?_⟩⟩;rw[← Zej,ivs,List.getElem?_map] at hj;obtain⟨x,hx,rfl⟩:=Option.map_eq_some_iff.1 hj;exact hk j x hx
theorem Zvj {fuel:Nat} {v:Value} {y:DataW H×List MemPlace} (h:DataW.trod enc Tryz.prog W 0 (fun _=>true) true fuel 22 [v]=some y) :
  ∃ (l:List Prd) (ao:Option Addr) (n c:Nat),v = .slice ao n c∧n=l.length∧n≤c∧n≤9223372036854775807∧Ze8 W (fun _=>True) l ao∧(∀ p∈l,ByL p)∧(∀ p∈l,Ztm p):=by
 obtain⟨ao,n,c,e4,hmc,hcm,hel⟩:=Zco Tryz.underlying22 cP (by decide) h;have hlen:n≤9223372036854775807:=Nat.le_trans hmc (Nat.le_trans hcm (by decide));rcases hel with h0 | ⟨g,off,n',h1,h2,h3,h4⟩
 ·exact⟨[],ao,n,c,e4,h0,hmc,hlen,.inl rfl,by simp,by simp⟩
 ·obtain⟨ks,hkl,hk⟩:=Zd7 (α:=Prd) n (fun i p=>(∃ vs,Zam W (fun g=>g<W.heap.size) p vs∧Zav W g (off+i*5) vs)∧ByL p∧Ztm p) (fun i hi=>by
   obtain⟨cs,y,h5,h6,h7⟩:=h4 i hi;obtain⟨p,hp1,hp2,hp3⟩:=Zuo n' cs y h7
   exact⟨p,⟨cs,hp1,h6⟩,hp2,hp3⟩)
  have hpr:Ze8 W (fun g=>g<W.heap.size) ks ao:=.inr ⟨g,off,h1,h2,h2,Zkz ks g off (fun i p hp=>(hk i p hp).1)⟩;refine⟨ks,ao,n,c,e4,hkl.symm,hmc,hlen,hpr.mono (fun _ _ _=>trivial),fun q hq=>?_,fun q hq=>?_⟩
  ·obtain⟨i,hi⟩:=List.mem_iff_getElem?.1 hq
   exact (hk i q hi).2.1
  ·obtain⟨i,hi⟩:=List.mem_iff_getElem?.1 hq
   exact (hk i q hi).2.2
theorem Znx {fuel:Nat} {v:Value} {y:DataW H×List MemPlace} (h:DataW.trod enc Tryz.prog W 0 (fun _=>true) true fuel 42 [v]=some y) :
  ∃ (l:List Bnd) (ao:Option Addr) (n c:Nat),v = .slice ao n c∧n=l.length∧n≤c∧n≤9223372036854775807∧(∀ b∈l,NmL b.n)∧Zal Zy6 W ao l:=by
 obtain⟨ao,n,c,e4,hmc,hcm,hel⟩:=Zco Tryz.underlying42 cB (by decide) h;have hlen:n≤9223372036854775807:=Nat.le_trans hmc (Nat.le_trans hcm (by decide));rcases hel with h0 | ⟨g,off,n',h1,h2,h3,h4⟩
 ·exact⟨[],ao,n,c,e4,h0,hmc,hlen,by simp,.inl rfl⟩
 ·obtain⟨l,hl,hk⟩:=Zd7 (α:=Bnd) n (fun i b=>(NmL b.n)∧Zav W g (off+i*2) (Zy6 b)) (fun i hi=>by
   obtain⟨cs,y,h5,h6,h7⟩:=h4 i hi;obtain⟨xs,n2,hn,-,hl,hxl,hf⟩:=DataW.trod_struct Tryz.underlying164 h7
   match cs,h5 with
   | [c0,c1],_ =>
    match xs,hxl with
    | [y0,y1],_ =>
     have f0:DataW.trod enc Tryz.prog W 0 (fun _=>true) true n2 9 (([c0,c1]:List Value).drop 0 |>.take (Tryz.prog.cellsOf 9))=some y0:=hf 0 _ rfl;have f1:DataW.trod enc Tryz.prog W 0 (fun _=>true) true n2 3 (([c0,c1]:List Value).drop 1 |>.take (Tryz.prog.cellsOf 3))=some y1:=hf 1 _ rfl;rw[cS] at f0;rw[cI] at f1;obtain⟨s0,e0,-,z0⟩:=DataW.trod_string Tryz.underlying9 (show DataW.trod enc Tryz.prog W 0 (fun _=>true) true n2 9 [c0]=some y0 from f0);obtain⟨k1,e1,-,-⟩:=DataW.trod_int Tryz.underlying3 (show DataW.trod enc Tryz.prog W 0 (fun _=>true) true n2 3 [c1]=some y1 from f1);simp only[List.cons.injEq,and_true] at e0 e1;subst e0 e1;obtain⟨l0,rfl,b0,g0⟩:=Zek s0
     exact⟨⟨l0,k1⟩,⟨b0,by rw[g0];exact Nat.le_trans z0 (by decide)⟩,h6⟩)
  refine⟨l,ao,n,c,e4,hl.symm,hmc,hlen,fun b hb=>?_,.inr ⟨g,off,h1,h2,fun j u hj=>?_⟩⟩
  ·obtain⟨i,hi⟩:=List.mem_iff_getElem?.1 hb
   exact (hk i b hi).1
  ·have hjl:=(List.getElem?_eq_some_iff.1 hj).1
   rw[Zby Zy6 2 Zkw] at hjl
   have hi:j/2<l.length:=by omega
   have hb:=List.getElem?_eq_getElem hi
   have hjj:j=j/2*2+j%2:=by omega
   have h9:=(hk (j/2) _ hb).2 (j%2) u (by
    rw[← Zcr Zy6 2 Zkw l (j/2) (j%2) _ hb (Nat.mod_lt _ (by decide)),← hjj];exact hj)
   rwa [Nat.add_assoc,← hjj] at h9
theorem Zvk {fuel:Nat} {v:Value} {y:DataW H×List MemPlace} (h:DataW.trod enc Tryz.prog W 0 (fun _=>true) true fuel 24 [v]=some y) :
  ∃ (l:List Use) (ao:Option Addr) (n c:Nat),v = .slice ao n c∧n=l.length∧n≤c∧n≤9223372036854775807∧(∀ b∈l,True)∧Zal Zbv W ao l:=by
 obtain⟨ao,n,c,e4,hmc,hcm,hel⟩:=Zco Tryz.underlying24 Z2l (by decide) h;have hlen:n≤9223372036854775807:=Nat.le_trans hmc (Nat.le_trans hcm (by decide));rcases hel with h0 | ⟨g,off,n',h1,h2,h3,h4⟩
 ·exact⟨[],ao,n,c,e4,h0,hmc,hlen,by simp,.inl rfl⟩
 ·obtain⟨l,hl,hk⟩:=Zd7 (α:=Use) n (fun i b=>(True)∧Zav W g (off+i*4) (Zbv b)) (fun i hi=>by
   obtain⟨cs,y,h5,h6,h7⟩:=h4 i hi;obtain⟨xs,n2,hn,-,hl,hxl,hf⟩:=DataW.trod_struct Tryz.underlying39 h7
   match cs,h5 with
   | [c0,c1,c2,c3],_ =>
    match xs,hxl with
    | [y0,y1,y2,y3],_ =>
     have f0:DataW.trod enc Tryz.prog W 0 (fun _=>true) true n2 3 (([c0,c1,c2,c3]:List Value).drop 0 |>.take (Tryz.prog.cellsOf 3))=some y0:=hf 0 _ rfl;have f1:DataW.trod enc Tryz.prog W 0 (fun _=>true) true n2 3 (([c0,c1,c2,c3]:List Value).drop 1 |>.take (Tryz.prog.cellsOf 3))=some y1:=hf 1 _ rfl;have f2:DataW.trod enc Tryz.prog W 0 (fun _=>true) true n2 3 (([c0,c1,c2,c3]:List Value).drop 2 |>.take (Tryz.prog.cellsOf 3))=some y2:=hf 2 _ rfl;have f3:DataW.trod enc Tryz.prog W 0 (fun _=>true) true n2 3 (([c0,c1,c2,c3]:List Value).drop 3 |>.take (Tryz.prog.cellsOf 3))=some y3:=hf 3 _ rfl;rw[cI] at f0;rw[cI] at f1;rw[cI] at f2;rw[cI] at f3;obtain⟨k0,e0,-,-⟩:=DataW.trod_int Tryz.underlying3 (show DataW.trod enc Tryz.prog W 0 (fun _=>true) true n2 3 [c0]=some y0 from f0);obtain⟨k1,e1,-,-⟩:=DataW.trod_int Tryz.underlying3 (show DataW.trod enc Tryz.prog W 0 (fun _=>true) true n2 3 [c1]=some y1 from f1);obtain⟨k2,e2,-,-⟩:=DataW.trod_int Tryz.underlying3 (show DataW.trod enc Tryz.prog W 0 (fun _=>true) true n2 3 [c2]=some y2 from f2);obtain⟨k3,e3,-,-⟩:=DataW.trod_int Tryz.underlying3 (show DataW.trod enc Tryz.prog W 0 (fun _=>true) true n2 3 [c3]=some y3 from f3);simp only[List.cons.injEq,and_true] at e0 e1 e2 e3;subst e0 e1 e2 e3
     exact⟨⟨k0,k1,k2,k3⟩,trivial,h6⟩)
  refine⟨l,ao,n,c,e4,hl.symm,hmc,hlen,fun b hb=>?_,.inr ⟨g,off,h1,h2,fun j u hj=>?_⟩⟩
  ·obtain⟨i,hi⟩:=List.mem_iff_getElem?.1 hb
   exact (hk i b hi).1
  ·have hjl:=(List.getElem?_eq_some_iff.1 hj).1
   rw[Zby Zbv 4 Zbh] at hjl
   have hi:j/4<l.length:=by omega
   have hb:=List.getElem?_eq_getElem hi
   have hjj:j=j/4*4+j%4:=by omega
   have h9:=(hk (j/4) _ hb).2 (j%4) u (by
    rw[← Zcr Zbv 4 Zbh l (j/4) (j%4) _ hb (Nat.mod_lt _ (by decide)),← hjj];exact hj)
   rwa [Nat.add_assoc,← hjj] at h9
theorem Zvl {fuel:Nat} {v:Value} {y:DataW H×List MemPlace} (h:DataW.trod enc Tryz.prog W 0 (fun _=>true) true fuel 23 [v]=some y) :
  ∃ (l:List Mem) (ao:Option Addr) (n c:Nat),v = .slice ao n c∧n=l.length∧n≤c∧n≤9223372036854775807∧(∀ m∈l,(∀ b∈m.b,NmL b.n)∧m.b.length≤9223372036854775807∧m.t.length≤9223372036854775807)∧Zfk W l ao:=by
 obtain⟨ao,n,c,e4,hmc,hcm,hel⟩:=Zco Tryz.underlying23 Z3a (by decide) h;have hlen:n≤9223372036854775807:=Nat.le_trans hmc (Nat.le_trans hcm (by decide));rcases hel with h0 | ⟨g,off,n',h1,h2,h3,h4⟩
 ·exact⟨[],ao,n,c,e4,h0,hmc,hlen,by simp,.inl rfl⟩
 ·obtain⟨l,hl,hk⟩:=Zd7 (α:=Mem) n (fun i m=>((∀ b∈m.b,NmL b.n)∧m.b.length≤9223372036854775807∧m.t.length≤9223372036854775807)∧∃ cs,Zjw W m cs∧Zav W g (off+i*3) cs) (fun i hi=>by
   obtain⟨cs,y,h5,h6,h7⟩:=h4 i hi;obtain⟨xs,n2,hn,-,hl,hxl,hf⟩:=DataW.trod_struct Tryz.underlying44 h7
   match cs,h5 with
   | [c0,c1,c2],_ =>
    match xs,hxl with
    | [y0,y1,y2],_ =>
     have f0:DataW.trod enc Tryz.prog W 0 (fun _=>true) true n2 42 (([c0,c1,c2]:List Value).drop 0 |>.take (Tryz.prog.cellsOf 42))=some y0:=hf 0 _ rfl;have f1:DataW.trod enc Tryz.prog W 0 (fun _=>true) true n2 33 (([c0,c1,c2]:List Value).drop 1 |>.take (Tryz.prog.cellsOf 33))=some y1:=hf 1 _ rfl;have f2:DataW.trod enc Tryz.prog W 0 (fun _=>true) true n2 3 (([c0,c1,c2]:List Value).drop 2 |>.take (Tryz.prog.cellsOf 3))=some y2:=hf 2 _ rfl;rw[cLB] at f0;rw[cLI] at f1;rw[cI] at f2;obtain⟨bl,bo,bn,bc,e0,hb1,hb2,hb3,hb4,hb5⟩:=Znx (show DataW.trod enc Tryz.prog W 0 (fun _=>true) true n2 42 [c0]=some y0 from f0);obtain⟨tl,ta,tn,tc,e1,ht1,ht2,ht3,ht4⟩:=Znw (show DataW.trod enc Tryz.prog W 0 (fun _=>true) true n2 33 [c1]=some y1 from f1);obtain⟨k,e2,-,-⟩:=DataW.trod_int Tryz.underlying3 (show DataW.trod enc Tryz.prog W 0 (fun _=>true) true n2 3 [c2]=some y2 from f2);simp only[List.cons.injEq,and_true] at e2;subst e0 e1 e2 hb1 ht1;refine⟨⟨bl,tl,k⟩,⟨hb4,hb3,ht3⟩,_,⟨bo,bc,ta,tc,rfl,?_,ht4⟩,h6⟩;rcases hb5 with hb5 | ⟨g5,o5,q1,q2,q3⟩
     ·exact .inl hb5
     ·exact .inr ⟨g5,o5,q1,trivial,q2,q3⟩)
  refine⟨l,ao,n,c,e4,hl.symm,hmc,hlen,fun m hm=>?_,.inr ⟨g,off,h1,h2,fun i m hm=>(hk i m hm).2⟩⟩;obtain⟨i,hi⟩:=List.mem_iff_getElem?.1 hm;exact (hk i m hi).1
theorem Zyk {r:Reach} {b0:Nat} {v:Value} {d:DataW H} {p:List MemPlace} (hv:Value.okWide Tryz.prog W r b0 26 v) (h:DataW.Trod enc Tryz.prog W 0 (fun _=>true) true 26 v d p) :
  ∃ (c:Crw) (cs:List Value),v = .agg cs.toArray∧Zgs W c cs∧LenC c∧(∀ p∈c.qs,ByL p)∧(∀ m∈c.ms,∀ b∈m.b,NmL b.n):=by
 obtain⟨cs,rfl,hsz⟩:=okWide_struct Tryz.underlying26 hv;obtain⟨fuel,hf⟩:=h;have hcs:(Value.agg cs).cells=cs:=rfl;rw[hcs] at hf;obtain⟨xs,n2,hn,-,hl,hxl,hf⟩:=DataW.trod_struct Tryz.underlying26 hf
 have hl3:cs.toList.length=3:=by rw[hl];kernel_rfl
 obtain⟨l0⟩:=cs
 match l0,hl3 with
 | [c0,c1,c2],_ =>
  match xs,hxl with
  | [y0,y1,y2],_ =>
   have f0:DataW.trod enc Tryz.prog W 0 (fun _=>true) true n2 22 (([c0,c1,c2]:List Value).drop 0 |>.take (Tryz.prog.cellsOf 22))=some y0:=hf 0 _ rfl;have f1:DataW.trod enc Tryz.prog W 0 (fun _=>true) true n2 23 (([c0,c1,c2]:List Value).drop 1 |>.take (Tryz.prog.cellsOf 23))=some y1:=hf 1 _ rfl;have f2:DataW.trod enc Tryz.prog W 0 (fun _=>true) true n2 24 (([c0,c1,c2]:List Value).drop 2 |>.take (Tryz.prog.cellsOf 24))=some y2:=hf 2 _ rfl;rw[cLP] at f0;rw[cLM] at f1;rw[cLS] at f2;obtain⟨ql,qo,qn,qc,e0,hq1,hq2,hq3,hq4,hq5,hq6⟩:=Zvj (show DataW.trod enc Tryz.prog W 0 (fun _=>true) true n2 22 [c0]=some y0 from f0);obtain⟨ml,mo,mn,mc,e1,hm1,hm2,hm3,hm4,hm5⟩:=Zvl (show DataW.trod enc Tryz.prog W 0 (fun _=>true) true n2 23 [c1]=some y1 from f1);obtain⟨ul,uo,un,uc,e2,hu1,hu2,hu3,-,hu5⟩:=Zvk (show DataW.trod enc Tryz.prog W 0 (fun _=>true) true n2 24 [c2]=some y2 from f2);subst e0 e1 e2 hq1 hm1 hu1;exact⟨⟨ql,ml,ul⟩,_,rfl,⟨qo,qc,mo,mc,uo,uc,rfl,hq4,hm5,hu5,hu2⟩,⟨hq6,fun m hm=>(hm4 m hm).2,hq3,hm3,hu3⟩,hq5,fun m hm=>(hm4 m hm).1⟩
end
theorem Z0s {c:Crw} (hf:Z1q c=true) (hL:LenC c) (hb:∀ p∈c.qs,ByL p) (hm:∀ m∈c.ms,∀ b∈m.b,NmL b.n):CrwOk c∧c.us.length≤999∧c.ms.length≤65∧c.qs.length≤129:=by
 unfold Z1q at hf;simp only[Bool.and_eq_true,List.all_eq_true] at hf;obtain⟨⟨h1,h2⟩,h3⟩:=hf;unfold Zel at h1;simp only[Bool.and_eq_true,Bool.or_eq_true,decide_eq_true_eq] at h1;refine⟨⟨fun p hp=>⟨hb p hp,?_⟩,fun m hmm=>⟨hm m hmm,?_,?_⟩,by omega,by omega,by omega⟩,by omega,by omega,by omega⟩
 ·have:=Zz7 (h2 p hp);omega
 ·have:=h3 m hmm
  unfold Zvi at this;simp only[Bool.and_eq_true,decide_eq_true_eq] at this;omega
 ·have:=h3 m hmm
  unfold Zvi at this;simp only[Bool.and_eq_true,decide_eq_true_eq] at this;omega
end
section
open Go Go.ChangeShapes Go.WideShapes Go.ChangeAt Go.WideMaps Go.WideElems Go.RowKit
section
variable {H:Type} {enc:TypeId×Value→H} {W:World}
theorem Zyl {fuel:Nat} {cs:List Value} {y:DataW H×List MemPlace} (hl:cs.length=4) (h:DataW.trod enc Tryz.prog W 0 (fun _=>true) true fuel 39 cs=some y):∃ x:Use,cs=Zbv x:=by
 obtain⟨xs,n2,hn,-,hl2,hxl,hf⟩:=DataW.trod_struct Tryz.underlying39 h
 match cs,hl with
 | [c0,c1,c2,c3],_ =>
  match xs,hxl with
  | [y0,y1,y2,y3],_ =>
   have f0:DataW.trod enc Tryz.prog W 0 (fun _=>true) true n2 3 (([c0,c1,c2,c3]:List Value).drop 0 |>.take (Tryz.prog.cellsOf 3))=some y0:=hf 0 _ rfl;have f1:DataW.trod enc Tryz.prog W 0 (fun _=>true) true n2 3 (([c0,c1,c2,c3]:List Value).drop 1 |>.take (Tryz.prog.cellsOf 3))=some y1:=hf 1 _ rfl;have f2:DataW.trod enc Tryz.prog W 0 (fun _=>true) true n2 3 (([c0,c1,c2,c3]:List Value).drop 2 |>.take (Tryz.prog.cellsOf 3))=some y2:=hf 2 _ rfl;have f3:DataW.trod enc Tryz.prog W 0 (fun _=>true) true n2 3 (([c0,c1,c2,c3]:List Value).drop 3 |>.take (Tryz.prog.cellsOf 3))=some y3:=hf 3 _ rfl;rw[cI] at f0 f1 f2 f3;obtain⟨k0,e0,-,-⟩:=DataW.trod_int Tryz.underlying3 (show DataW.trod enc Tryz.prog W 0 (fun _=>true) true n2 3 [c0]=some y0 from f0);obtain⟨k1,e1,-,-⟩:=DataW.trod_int Tryz.underlying3 (show DataW.trod enc Tryz.prog W 0 (fun _=>true) true n2 3 [c1]=some y1 from f1);obtain⟨k2,e2,-,-⟩:=DataW.trod_int Tryz.underlying3 (show DataW.trod enc Tryz.prog W 0 (fun _=>true) true n2 3 [c2]=some y2 from f2);obtain⟨k3,e3,-,-⟩:=DataW.trod_int Tryz.underlying3 (show DataW.trod enc Tryz.prog W 0 (fun _=>true) true n2 3 [c3]=some y3 from f3);simp only[List.cons.injEq,and_true] at e0 e1 e2 e3;subst e0 e1 e2 e3;exact⟨⟨k0,k1,k2,k3⟩,rfl⟩
theorem Zym {r:Reach} {b0:Nat} {v:Value} {d:DataW H} {p:List MemPlace} (hv:Value.okWide Tryz.prog W r b0 39 v) (h:DataW.Trod enc Tryz.prog W 0 (fun _=>true) true 39 v d p) :
  ∃ (x:Use),v = .agg (Zbv x).toArray:=by
 obtain⟨cs,rfl,hsz⟩:=okWide_struct Tryz.underlying39 hv;obtain⟨fuel,hf⟩:=h;have hcs:(Value.agg cs).cells=cs:=rfl;rw[hcs] at hf
 have hl:cs.toList.length=4:=by
  obtain⟨xs,n2,hn,-,hl,hxl,-⟩:=DataW.trod_struct Tryz.underlying39 hf;rw[hl];kernel_rfl
 obtain⟨x,hx⟩:=Zyl hl hf;exact⟨x,by rw[← hx]⟩
end
end
section
open Go.RowKit Go.Sort Go.Maps
theorem Zqm {P:Program} (w:World) (T ty E:TypeId) (i:TypeInfo) (hT:P.underlying T=some (.slice E)) (hi:P.info? E=some i) (b:Addr) (n cap:Nat) (x:Option Addr) (c:Nat) (hn:n≤cap) :
  (Builtin.append_ #[T,T] ty #[.slice (some b) n cap,.slice x 0 c]).run P w = .ok (.slice (some b) n cap) w:=by
 cases x<;>simp[Builtin.append_,run_underlying hT,sizeOf,typeInfo,hi,hn,Builtin.lenOf,Builtin.firstCells,loadCells,loadCellsFrom,storeCells]
theorem Z2m {α:Type} (f:α→List Value) {ops:Array Oper} {rest:List Oper} {o:Oper} {a:Act} {Q:Exit→Act→World→Prop} (T E:TypeId) (z:Value) (k bt:Nat)
  (hT:Tryz.prog.underlying T=some (.slice E)) (hE:(Tryz.prog.info? E).map (fun i=>(i.zero,i.size,i.bytes))=some (some z,k,bt)) (hz:z.cells.size=k) (hk:0<k) (hbt:bt≤1000) (hf:∀ x,(f x).length=k) (h1:∀ x,∀ u∈f x,u.oneCell'=true)
  (w1:World) (B:Nat) (hg:o.guard=none) (s x:Operand) (hop:o.op=Op.call { callee:=Callee.builtin Builtin.append,args:=#[s,x],argTypes:=#[T,T] })
  (b0:Addr) (cap n:Nat) (l:List α) (hs:a.eval s = .slice (some b0) n cap) (hO:OwnK w1 B k n cap (l.flatMap f) (some b0)) (hB:B≤w1.heap.size)
  (xo:Option Addr) (m c:Nat) (r:List α) (hx:a.eval x = .slice xo m c) (hm:m=r.length) (hr:Zal f w1 xo r)
  (b1:n+m≤1000000000)
  (hK:∀ g off cap' w',OwnK w' B k (n+m) cap' ((l++r).flatMap f) (some ⟨g,off,none⟩)→Below B w1 w'→wpList Tryz.prog ops Q rest (a.put o.dst (.slice (some ⟨g,off,none⟩) (n+m) cap')) w') :
  wpList Tryz.prog ops Q (o::rest) a w1:=by
 rcases Nat.eq_zero_or_pos m with h0 | h0
 ·have hr0:r=[]:=List.eq_nil_of_length_eq_zero (by omega)
  subst h0;subst hr0;obtain⟨i0,hi,hz0,hz1,hz2⟩:=Zdk hE;have hrun:=Zqm (P:=Tryz.prog) w1 T o.type E i0 hT hi b0 n cap xo c hO.len_le.1
  obtain⟨g0,o0,hb0⟩:∃ g off,b0=⟨g,off,none⟩:=by cases hO;exact⟨_,_,rfl⟩
  subst hb0
  refine wpList_plain hg fun K hK'=>?_
  unfold Oper.wp;simp[execOp,hop,resolve,invoke,builtin,hs,hx,hrun,Result.andThen];exact hK' _ _ (hK g0 o0 cap w1 (by rw[List.append_nil];exact hO) (Below.refl _ _))
 ·rcases hr with hr | ⟨g,off,rfl,hgl,hrd⟩
  ·rw[hr] at hm;simp at hm;omega
  refine Z16 T E z k bt hT hE hz hk hbt w1 B hg s x hop (some b0) cap n (l.flatMap f) hs hO hB g off m c (r.flatMap f) hx ?_ h0 hrd ?_ b1 ?_
  ·rw[hm,List.length_flatMap,List.map_congr_left (fun x _=>hf x),List.map_const',List.sum_replicate_nat]
  ·intro u hu
   obtain⟨y,-,hy⟩:=List.mem_flatMap.1 hu;exact h1 y u hy
  ·intro g' off' cap' w' ho hgr _
   refine hK g' off' cap' w' (by rw[List.flatMap_append];exact ho) ⟨hgr.os,hgr.tape,hgr.output,hgr.size,fun i hi=>?_⟩;refine hgr.block i (Nat.lt_of_lt_of_le hi hB) (fun e=>?_);have:=(hO.blk_lt e.symm).1;omega
theorem Zzg {α:Type} (f:α→List Value) {ops:Array Oper} {rest:List Oper} {o:Oper} {a:Act} {Q:Exit→Act→World→Prop} (T E:TypeId) (z:Value) (k bt:Nat)
  (hT:Tryz.prog.underlying T=some (.slice E)) (hE:(Tryz.prog.info? E).map (fun i=>(i.zero,i.size,i.bytes))=some (some z,k,bt)) (hz:z.cells.size=k) (hk:0<k) (hbt:bt≤1000) (hf:∀ x,(f x).length=k) (h1:∀ x,∀ u∈f x,u.oneCell'=true)
  (w1:World) (B:Nat) (hg:o.guard=none) (s x:Operand) (hop:o.op=Op.call { callee:=Callee.builtin Builtin.append,args:=#[s,x],argTypes:=#[T,T] })
  (b0:Addr) (cap:Nat) (hs:a.eval s = .slice (some b0) 0 cap) (hO:OwnK w1 B k 0 cap [] (some b0)) (hB:B≤w1.heap.size)
  (xo:Option Addr) (m c:Nat) (r:List α) (hx:a.eval x = .slice xo m c) (hm:m=r.length) (hr:Zal f w1 xo r)
  (b1:m≤1000000)
  (hK:∀ g off cap' w',OwnK w' B k m cap' (r.flatMap f) (some ⟨g,off,none⟩)→Below B w1 w'→wpList Tryz.prog ops Q rest (a.put o.dst (.slice (some ⟨g,off,none⟩) m cap')) w') :
  wpList Tryz.prog ops Q (o::rest) a w1:=by
 refine Z2m f T E z k bt hT hE hz hk hbt hf h1 w1 B hg s x hop b0 cap 0 [] hs hO hB xo m c r hx hm hr (by omega) ?_;intro g off cap' w' ho hb;rw[Nat.zero_add] at ho ⊢;exact hK g off cap' w' ho hb
theorem Zzh {α:Type} (f:α→List Value) {ops:Array Oper} {rest:List Oper} {o:Oper} {a:Act} {Q:Exit→Act→World→Prop} (T E:TypeId) (z:Value) (k bt:Nat)
  (hT:Tryz.prog.underlying T=some (.slice E)) (hE:(Tryz.prog.info? E).map (fun i=>(i.zero,i.size,i.bytes))=some (some z,k,bt)) (hz:z.cells.size=k) (hk:0<k) (hbt:bt≤1000) (hf:∀ x,(f x).length=k) (h1:∀ x,∀ u∈f x,u.oneCell'=true)
  (w1:World) (B:Nat) (hg:o.guard=none) (s x:Operand) (hop:o.op=Op.call { callee:=Callee.builtin Builtin.append,args:=#[s,x],argTypes:=#[T,T] })
  (b0:Addr) (hs:a.eval s = .slice (some b0) 0 0) (hO:OwnK w1 B k 0 0 [] (some b0)) (hB:B≤w1.heap.size)
  (xo:Option Addr) (m c:Nat) (r:List α) (hx:a.eval x = .slice xo m c) (hm:m=r.length) (hr:Zal f w1 xo r)
  (b1:m≤1000000)
  (hK:∀ g off cap' w',OwnK w' B k m cap' (r.flatMap f) (some ⟨g,off,none⟩)→Below w1.heap.size w1 w'→wpList Tryz.prog ops Q rest (a.put o.dst (.slice (some ⟨g,off,none⟩) m cap')) w') :
  wpList Tryz.prog ops Q (o::rest) a w1:=by
 obtain⟨i0,hi,hz0,hz1,hz2⟩:=Zdk hE;rcases Nat.eq_zero_or_pos m with h0 | h0
 ·have hr0:r=[]:=List.eq_nil_of_length_eq_zero (by omega)
  subst h0;subst hr0;have hrun:=Zqm (P:=Tryz.prog) w1 T o.type E i0 hT hi b0 0 0 xo c (Nat.le_refl _)
  obtain⟨g0,o0,hb0⟩:∃ g off,b0=⟨g,off,none⟩:=by cases hO;exact⟨_,_,rfl⟩
  subst hb0
  refine wpList_plain hg fun K hK'=>?_
  unfold Oper.wp;simp[execOp,hop,resolve,invoke,builtin,hs,hx,hrun,Result.andThen];exact hK' _ _ (hK g0 o0 0 w1 hO (Below.refl _ _))
 ·rcases hr with hr | ⟨g,off,rfl,hgl,hrd⟩
  ·rw[hr] at hm;simp at hm;omega
  refine wpList_append_grows w1 hg s x T hop E i0 z k bt hT hi hz0 hz1 hz2 hz hk (some b0) 0 0 [] hs (fun h=>by cases h) (by simp) (fun b hb j u hj=>by simp at hj) ⟨g,off,none⟩ m c (r.flatMap f) hx ?_ (fun j u hj=>by rw[Addr.add_lit];exact hrd j u hj) ?_ (by omega)
   (by simp only[maxLen];omega) (Nat.le_trans (Nat.mul_le_mul (show 0+m≤1000000000 by omega) hbt) (by decide)) ?_
  ·rw[hm,List.length_flatMap,List.map_congr_left (fun x _=>hf x),List.map_const',List.sum_replicate_nat]
  ·intro u hu
   obtain⟨y,-,hy⟩:=List.mem_flatMap.1 hu;exact h1 y u hy
  ·intro v' w' ho hgr
   rw[Nat.zero_add,List.nil_append] at ho;obtain⟨g',cap',rfl,hw,hl',hcm,hle⟩:=OwnK.of_row ho h0;exact hK g' 0 cap' w' ((OwnK.at g' 0 hw hl' hcm hle).lower hB) ⟨hgr.os,hgr.tape,hgr.output,hgr.size,fun k hk=>hgr.block k hk (by simp)⟩
theorem Zaf.off {w:World} {g:Nat} {t:TypeId} {cs:List Value} (h:Zaf w g t cs) {p:Addr} (hp:g≠p.block) (u:Value):Zaf (w.setCell p u) g t cs:=by
 unfold Zaf;rw[Below.heap_setCell _ _ _ _ hp];exact h
theorem Z1r {w:World} {c:Crw} {qo mo uo:Option Addr} {qn mn un qc mc uc:Nat} (h:Zgs w c [.slice qo qn qc,.slice mo mn mc,.slice uo un uc]):Zal Zbv w uo c.us∧un=c.us.length∧un≤uc:=by
 obtain⟨qo',qc',mo',mc',uo',uc',he,h1,h2,h3,h4⟩:=h;simp only[List.cons.injEq,Value.slice.injEq,and_true] at he;obtain⟨⟨rfl,rfl,rfl⟩,⟨rfl,rfl,rfl⟩,rfl,rfl,rfl⟩:=he;exact⟨h3,rfl,h4⟩
theorem Zyn (x:Use):∀ u∈Zbv x,u.oneCell'=true:=by
 intro u hu;unfold Zbv at hu;simp only[List.mem_cons,List.not_mem_nil,or_false] at hu;rcases hu with rfl | rfl | rfl | rfl<;>rfl
theorem Zyo (x:Int):∀ u∈Za9 x,u.oneCell'=true:=by
 intro u hu;unfold Za9 at hu;simp only[List.mem_cons,List.not_mem_nil,or_false] at hu;subst hu;rfl
def Z3b (x:Use) (m:Int):Use:=⟨x.q,x.w,x.f,m⟩
def Zr0 (c:Crw) (us:List Use):Crw:=⟨c.qs,c.ms,us⟩
theorem Zvm {w:World} {c:Crw} {qo mo uo:Option Addr} {qn mn un qc mc uc B:Nat} (h:ArgC w c [.slice qo qn qc,.slice mo mn mc,.slice uo un uc] B) {us:List Use} {xo:Option Addr} {xc n:Nat} (hu:Zal Zbv w xo us) (hn:n=us.length) (hl:n≤xc) (h9:us.length≤999):ArgC w (Zr0 c us) [.slice qo qn qc,.slice mo mn mc,.slice xo n xc] B:=by
 obtain⟨⟨qo',qc',mo',mc',uo',uc',he,h1,h2,h3,h4⟩,htab,hok,hnu⟩:=h;simp only[List.cons.injEq,Value.slice.injEq,and_true] at he;obtain⟨⟨rfl,rfl,rfl⟩,⟨rfl,rfl,rfl⟩,-,-,-⟩:=he;exact⟨⟨_,_,_,_,_,_,by rw[hn];rfl,h1,h2,hu,by show us.length≤xc;omega⟩,htab,⟨hok.q,hok.m,hok.nq,hok.nm,by show us.length≤1000000;omega⟩,h9⟩
theorem Zvn (c:Crw) (us:List Use):Za1 (Zr0 c us)=us.map (Zdl c (Zaj c)):=rfl
theorem Zr1 (c:Crw):Zak c=true↔c.qs.length≤128∧c.ms.length≤64∧c.us.length≤4096∧(∀ p∈c.qs,Zbs p=true)∧(∀ m∈c.ms,Zc1 m=true)∧∀ x∈c.us,Zc0 c.qs.length c.ms.length x=true:=by
 constructor
 ·exact Zar
 ·rintro⟨h1,h2,h3,h4,h5,h6⟩
  unfold Zak;rw[decide_eq_true h1,decide_eq_true h2,decide_eq_true h3]
  have e1:c.qs.any (fun q=>!Zbs q)=false:=by rw[List.any_eq_false];intro q hq;rw[h4 q hq];decide
  have e2:c.ms.any (fun m=>!Zc1 m)=false:=by rw[List.any_eq_false];intro q hq;rw[h5 q hq];decide
  have e3:c.us.any (fun x=>!Zc0 c.qs.length c.ms.length x)=false:=by rw[List.any_eq_false];intro q hq;rw[h6 q hq];decide
  rw[e1,e2,e3];rfl
def Z3c (c:Crw) (u:Nat) (m:Int):Crw:=Zr0 c (c.us.set u (Z3b (c.us.getD u ⟨0,0,0,0⟩) m))
theorem Z0t (c:Crw) (H:List (List Bool)) (x:Use) {k:Nat} (hk:k<c.ms.length):(Zdl c H x).getD k false=Zzb c H x k:=by
 unfold Zdl;rw[List.getD_eq_getElem?_getD,List.getElem?_map,List.getElem?_range hk];rfl
theorem Zvo {c:Crw} (us:List Use) {v:Nat} (hv:v<us.length) {k:Nat} (hk:k<c.ms.length):(Za2 (Zr0 c us) (Za1 (Zr0 c us))).can v k=Zzb c (Zaj c) (us.getD v ⟨0,0,0,0⟩) k:=by
 show ((us.map (Zdl c (Zaj c))).getD v []).getD k false=_
 have h1:(us.map (Zdl c (Zaj c))).getD v []=Zdl c (Zaj c) us[v]:=by rw[List.getD_eq_getElem?_getD,List.getElem?_map,List.getElem?_eq_getElem hv];rfl
 have h2:us.getD v ⟨0,0,0,0⟩=us[v]:=by rw[List.getD_eq_getElem?_getD,List.getElem?_eq_getElem hv];rfl
 rw[h1,h2,Z0t c _ _ hk]
theorem Z1s {c:Crw} {C:List (List Bool)} (hok:ReckOk c C):∀ v,v<(Za2 c C).U→(Za2 c C).win v<16:=fun v hv=>by
 obtain⟨g1,g2,g3⟩:=Z0p hok hv;omega
theorem Z0u {T:Tbl} (hw:∀ v,v<T.U→T.win v<16) (hg:∀ k,k<16→(Zc5 T k).length≤12) (h:Zpi T≤1152921504606846976):Zhc T=(Zpi T,0):=by
 have hm:Zbi=1152921504606846977:=rfl;unfold Zhc
 rw[if_neg (fun h2=>by
  obtain⟨k,hk,h3⟩:=List.any_eq_true.1 h2;have:=hg k (List.mem_range.1 hk);simp at h3
  omega),Zzn T hw,hm,Nat.min_eq_right (by omega),if_neg (by omega)]
end
section
open Go.RowKit Go.Sort Go.Maps
theorem Zr2 (c:Crw) (x:Use):Zaw c x=Zr0 c (c.us++[x]):=rfl
theorem Zvp (c:Crw) (x:Use):Za1 (Zaw c x)=Za1 c++[Zdl c (Zaj c) x]:=by
 rw[Zr2,Zvn,List.map_append];rfl
end
section
open Go.RowKit Go.Sort Go.Maps
def Zja (a b:List Int):Bool:=a.all (fun x=>b.any (fun y=>x==y))
theorem Ziu {a b:List Int}:Zja a b=true↔∀ x∈a,x∈b:=by
 unfold Zja;rw[List.all_eq_true];constructor
 ·intro h x hx
  obtain⟨y,hy,e⟩:=List.any_eq_true.1 (h x hx);rw[beq_iff_eq] at e;rw[e];exact hy
 ·intro h x hx
  exact List.any_eq_true.2 ⟨x,h x hx,by simp⟩
theorem Zlf (w:World) (a b:List Int) (ao bo:Option Addr) (ac bc:Nat) (ha:Zal Za9 w ao a) (hb:Zal Za9 w bo b) (hl:a.length≤1000000) (hl2:b.length≤1000000) :
  Calls Tryz.prog 26 #[.slice ao a.length ac,.slice bo b.length bc] w fun e w'=>e = .returned (.bool (Zja a b))∧Below w.heap.size w w':=by
 have HA:=ħ (fun W (hW:Below w.heap.size w W)=>ha.below hW);have HB:=ħ (fun W (hW:Below w.heap.size w W)=>hb.below hW);have HGA:Hid (∀ (i:Nat),i<a.length→∃ x,a[i]?=some x):=ħ (fun i h=>⟨_,List.getElem?_eq_getElem h⟩);have HGB:Hid (∀ (i:Nat),i<b.length→∃ x,b[i]?=some x):=ħ (fun i h=>⟨_,List.getElem?_eq_getElem h⟩)
 have HNB:Hid (∀ (x:Int) (k:Nat) (y:Int),b[k]?=some y→(b.take (k+1)).any (fun z=>x==z)=((b.take k).any (fun z=>x==z)||(x==y))):=ħ (fun x k y hy=>by
  rw[List.take_add_one,hy,List.any_append];simp)
 have HEB:Hid (∀ x:Int,(b.take b.length).any (fun z=>x==z)=b.any (fun z=>x==z)):=ħ (fun x=>by rw[List.take_length])
 have HNA:Hid (∀ (i:Nat) (x:Int),a[i]?=some x→(a.take (i+1)).all (fun x=>b.any (fun y=>x==y))=((a.take i).all (fun x=>b.any (fun y=>x==y))&&b.any (fun y=>x==y))):=ħ (fun i x hx=>by
  rw[List.take_add_one,hx,List.all_append];simp)
 have HEA:Hid ((a.take a.length).all (fun x=>b.any (fun y=>x==y))=Zja a b):=ħ (by rw[List.take_length];rfl)
 have HFA:Hid (∀ (i:Nat) (x:Int),a[i]?=some x→b.any (fun y=>x==y)=false→Zja a b=false):=ħ (fun i x hx h=>by
  unfold Zja;rw[List.all_eq_false]
  exact⟨x,List.mem_of_getElem? hx,by rw[h];decide⟩)
 clear ha hb;generalize Zja a b=DE at *;generalize hal:a.length=al at *;generalize hbl:b.length=bl at *;clear hal hbl
 go_enter Tryz.func26,Tryz.ntmps26
 go_wp2_with fail
 go_loopw [5] (fun iv wr=>∃ (i:Nat),iv = .int .i64 i∧i≤al∧Hid ((a.take i).all (fun x=>b.any (fun y=>x==y))=true)∧Hid (Below w.heap.size w wr)) (fun i _=>(al-intOf i).toNat)
 case atStart=>exact⟨0,rfl,by omega,ħ rfl,ħ (Below.refl _ _)⟩
 case round =>
  obtain⟨i,rfl,hi,HJ,BB⟩:=hrel;have e2:IntKind.i64.wrap ((i:Int)+1)=((i+1:Nat):Int):=IntWalk.i64_in _ (by omega);by_cases hin:i<al
  ·have ii:(i:Int)<al:=by omega
   obtain⟨x,hx⟩:=HGA.o i hin;have HX:=ħ hx;clear hx
   go_upto_region 6 with (fail)
   go_wp2_with fail
   generalize wr=wo at *
   go_loopw [6,7] (fun fv kv wr=>∃ (k:Nat),kv = .int .i64 k∧k≤bl∧fv = .bool ((b.take k).any (fun z=>x==z))∧Hid (Below w.heap.size w wr)) (fun _ k _=>(bl-intOf k).toNat)
   case atStart=>exact⟨0,rfl,by omega,rfl,BB⟩
   case round =>
    clear BB;obtain⟨k,rfl,hk,rfl,BB⟩:=hrel;have e3:IntKind.i64.wrap ((k:Int)+1)=((k+1:Nat):Int):=IntWalk.i64_in _ (by omega);by_cases hkn:k<bl
    ·have kk:(k:Int)<bl:=by omega
     obtain⟨y,hy⟩:=HGB.o k hkn;have HN:=ħ (HNB.o x k y hy);obtain⟨ga,oa,hao,hga,a0⟩:=(HA.o wr BB.o).int i x HX.o;obtain⟨gb,ob,hbo,hgb,b0⟩:=(HB.o wr BB.o).int k y hy;have HAO:=ħ hao;have HBO:=ħ hbo;subst hao;subst hbo;clear hga hgb hy;obtain⟨fb,hfb⟩:∃ t,(b.take k).any (fun z=>x==z)=t:=⟨_,rfl⟩;rw[hfb] at HN ⊢;clear hfb
     cases fb with
     | true =>
      go_upto_region 8 with (fail)
      go_quiet (fail)
      have B3:=ħ (below_drewN BB.o nq);clear a0 b0 BB;generalize wr.drewN nq=wd at *
      go_wp2_with fail
      go_roundw
      case rel=>exact⟨k+1,by go_num,by omega,by rw[HN.o];rfl,B3⟩
      case measure=>simp only[intOf];omega
     | false =>
      obtain⟨xb,hxb⟩:∃ t,(x==y)=t:=⟨_,rfl⟩;rw[hxb] at HN
      cases xb with
      | true =>
       go_upto_region 8 with (fail)
       go_quiet (fail)
       have B3:=ħ (below_drewN BB.o nq);clear a0 b0 BB;generalize wr.drewN nq=wd at *
       go_wp2_with fail
       go_roundw
       case rel=>exact⟨k+1,by go_num,by omega,by rw[HN.o];rfl,B3⟩
       case measure=>simp only[intOf];omega
      | false =>
       go_upto_region 8 with (fail)
       go_quiet (fail)
       have B3:=ħ (below_drewN BB.o nq);clear a0 b0 BB;generalize wr.drewN nq=wd at *
       go_wp2_with fail
       go_roundw
       case rel=>exact⟨k+1,by go_num,by omega,by rw[HN.o];rfl,B3⟩
       case measure=>simp only[intOf];omega
    ·have kk:¬ (k:Int)<bl:=by omega
     obtain rfl:k=bl:=by omega
     rw[HEB.o x];have HNX:=ħ (HNA.o i x HX.o);have HFX:=ħ (HFA.o i x HX.o);obtain⟨fb,hfb⟩:∃ t,b.any (fun z=>x==z)=t:=⟨_,rfl⟩;rw[hfb] at HNX HFX ⊢;clear hfb
     cases fb with
     | true =>
      go_wp2_with fail
      go_roundw
      case rel=>exact⟨i+1,by go_num,by omega,ħ (by rw[HNX.o,HJ.o];rfl),BB⟩
      case measure=>simp only[intOf];omega
     | false =>
      have HD:=ħ (HFX.o rfl)
      go_wp2_with fail
      go_ret;exact⟨by rw[HD.o];rfl,BB.o⟩
  ·have ii:¬ (i:Int)<al:=by omega
   obtain rfl:al=i:=by omega
   have HD:Hid (DE=true):=ħ (by rw[← HEA.o];exact HJ.o)
   go_wp2_with fail
   go_ret;exact⟨by rw[HD.o];rfl,BB.o⟩
theorem Ziv (i:Nat) (h:Zkn 6 i):i=0∨i=1∨i=2∨i=3∨i=4∨i=5∨i=7:=by unfold Zkn at h;omega
end
section
open Go.RowKit Go.Sort Go.Maps
theorem Zvq {w:World} {c:Crw} {qo mo uo:Option Addr} {qn mn un qc mc uc B:Nat} (h:ArgC w c [.slice qo qn qc,.slice mo mn mc,.slice uo un uc] B) (x:Use) {g off cap:Nat} {B0:Nat} (ho:OwnK w B0 4 (un+1) cap ((c.us++[x]).flatMap Zbv) (some ⟨g,off,none⟩)) (hn:un=c.us.length) (h9:c.us.length+1≤999):ArgC w (Zaw c x) [.slice qo qn qc,.slice mo mn mc,.slice (some ⟨g,off,none⟩) (un+1) cap] B :=
 Zvm h (ho.flatR Zbh (by simp;omega)) (by simp;omega) ho.len_le.1 (by simp;omega)
end
end Go.Proofs.YtbcgocpihobjnaaGreatDoor
