import Derived.Test.YtbcgocpihobjnaaGreatDoorCI45
import Derived.Test.YtbcgocpihobjnaaGreatDoorCI41
import Derived.Test.YtbcgocpihobjnaaGreatDoorCI39
import Derived.Test.YtbcgocpihobjnaaGreatDoorCI36
import Derived.Test.YtbcgocpihobjnaaGreatDoorCI43
import Derived.Test.YtbcgocpihobjnaaGreatDoorCI23
import Derived.Test.YtbcgocpihobjnaaGreatDoorCI12
import Derived.Test.YtbcgocpihobjnaaGreatDoorCI42
set_option linter.all false
set_option maxHeartbeats 32000000
set_option maxRecDepth 100000
namespace Go.Proofs.YtbcgocpihobjnaaGreatDoor
section
open Go Go.ChangeShapes Go.WideShapes Go.ChangeAt Go.WideMaps Go.WideElems Go.RowKit
theorem Z65:Tryz.prog.cellsOf 44=3:=by kernel_rfl
theorem Z6j:Tryz.prog.cellsOf 39=4:=by kernel_rfl
theorem cLP:Tryz.prog.cellsOf 22=1:=by kernel_rfl
theorem cLB:Tryz.prog.cellsOf 42=1:=by kernel_rfl
theorem cLI:Tryz.prog.cellsOf 33=1:=by kernel_rfl
theorem cLM:Tryz.prog.cellsOf 23=1:=by kernel_rfl
theorem cLS:Tryz.prog.cellsOf 24=1:=by kernel_rfl
instance:Inhabited Use:=⟨⟨0,0,0,0⟩⟩
instance:Inhabited Wsh:=⟨⟨0,0⟩⟩
instance:Inhabited Mem:=⟨⟨[],[],0⟩⟩
section
variable {H:Type} {enc:TypeId×Value→H} {W:World}
theorem Zyy {fuel:Nat} {v:Value} {y:DataW H×List MemPlace} (h:DataW.trod enc Tryz.prog W 0 (fun _=>true) true fuel 33 [v]=some y) :
  ∃ (l:List Int) (ao:Option Addr) (n c:Nat),v = .slice ao n c∧n=l.length∧n≤c∧n≤9223372036854775807∧Zal Zbk W ao l:=by
 obtain⟨ao,n,c,e4,hmc,hcm,hel⟩:=Zc5 Tryz.underlying33 cI (by decide) h;have hlen:n≤9223372036854775807:=Nat.le_trans hmc (Nat.le_trans hcm (by decide));rcases hel with h0 | ⟨g,off,n',h1,h2,h3,h4⟩
 ·exact⟨[],ao,n,c,e4,h0,hmc,hlen,.inl rfl⟩
 ·obtain⟨l,hl,hk⟩:=Zev (α:=Int) n (fun i x=>W.cell? ⟨g,off+i,none⟩=some (.int .i64 x)) (fun i hi=>by
   obtain⟨cs,y,h5,h6,h7⟩:=h4 i hi
   match cs,h5 with
   | [c0],_ =>
    obtain⟨k,e0,-,-⟩:=DataW.trod_int Tryz.underlying3 h7;simp only[List.cons.injEq,and_true] at e0;subst e0;have:=h6 0 _ rfl;rw[Nat.mul_one,Nat.add_zero] at this
    exact⟨k,this⟩)
  refine⟨l,ao,n,c,e4,hl.symm,hmc,hlen,.inr ⟨g,off,h1,h2,fun j u hj=>?_⟩⟩;rw[← Ze4,ivs,List.getElem?_map] at hj;obtain⟨x,hx,rfl⟩:=Option.map_eq_some_iff.1 hj;exact hk j x hx
theorem Zyz {fuel:Nat} {v:Value} {y:DataW H×List MemPlace} (h:DataW.trod enc Tryz.prog W 0 (fun _=>true) true fuel 22 [v]=some y) :
  ∃ (l:List Prd) (ao:Option Addr) (n c:Nat),v = .slice ao n c∧n=l.length∧n≤c∧n≤9223372036854775807∧Zcl W (fun _=>True) l ao∧(∀ p∈l,ByL p)∧(∀ p∈l,Zwd p):=by
 obtain⟨ao,n,c,e4,hmc,hcm,hel⟩:=Zc5 Tryz.underlying22 cP (by decide) h;have hlen:n≤9223372036854775807:=Nat.le_trans hmc (Nat.le_trans hcm (by decide));rcases hel with h0 | ⟨g,off,n',h1,h2,h3,h4⟩
 ·exact⟨[],ao,n,c,e4,h0,hmc,hlen,.inl rfl,by simp,by simp⟩
 ·obtain⟨ks,hkl,hk⟩:=Zev (α:=Prd) n (fun i p=>(∃ vs,Zan W (fun g=>g<W.heap.size) p vs∧Zau W g (off+i*5) vs)∧ByL p∧Zwd p) (fun i hi=>by
   obtain⟨cs,y,h5,h6,h7⟩:=h4 i hi;obtain⟨p,hp1,hp2,hp3⟩:=Zx3 n' cs y h7
   exact⟨p,⟨cs,hp1,h6⟩,hp2,hp3⟩)
  have hpr:Zcl W (fun g=>g<W.heap.size) ks ao:=.inr ⟨g,off,h1,h2,h2,Zna ks g off (fun i p hp=>(hk i p hp).1)⟩;refine⟨ks,ao,n,c,e4,hkl.symm,hmc,hlen,hpr.mono (fun _ _ _=>trivial),fun q hq=>?_,fun q hq=>?_⟩
  ·obtain⟨i,hi⟩:=List.mem_iff_getElem?.1 hq
   exact (hk i q hi).2.1
  ·obtain⟨i,hi⟩:=List.mem_iff_getElem?.1 hq
   exact (hk i q hi).2.2
theorem Zy0 {fuel:Nat} {v:Value} {y:DataW H×List MemPlace} (h:DataW.trod enc Tryz.prog W 0 (fun _=>true) true fuel 42 [v]=some y) :
  ∃ (l:List Bnd) (ao:Option Addr) (n c:Nat),v = .slice ao n c∧n=l.length∧n≤c∧n≤9223372036854775807∧(∀ b∈l,NmL b.n)∧Zal Zp1 W ao l:=by
 obtain⟨ao,n,c,e4,hmc,hcm,hel⟩:=Zc5 Tryz.underlying42 cB (by decide) h;have hlen:n≤9223372036854775807:=Nat.le_trans hmc (Nat.le_trans hcm (by decide));rcases hel with h0 | ⟨g,off,n',h1,h2,h3,h4⟩
 ·exact⟨[],ao,n,c,e4,h0,hmc,hlen,by simp,.inl rfl⟩
 ·obtain⟨l,hl,hk⟩:=Zev (α:=Bnd) n (fun i b=>(NmL b.n)∧Zau W g (off+i*2) (Zp1 b)) (fun i hi=>by
   obtain⟨cs,y,h5,h6,h7⟩:=h4 i hi;obtain⟨xs,n2,hn,-,hl,hxl,hf⟩:=DataW.trod_struct Tryz.underlying164 h7
   match cs,h5 with
   | [c0,c1],_ =>
    match xs,hxl with
    | [y0,y1],_ =>
     have f0:DataW.trod enc Tryz.prog W 0 (fun _=>true) true n2 9 (([c0,c1]:List Value).drop 0 |>.take (Tryz.prog.cellsOf 9))=some y0:=hf 0 _ rfl;have f1:DataW.trod enc Tryz.prog W 0 (fun _=>true) true n2 3 (([c0,c1]:List Value).drop 1 |>.take (Tryz.prog.cellsOf 3))=some y1:=hf 1 _ rfl;rw[cS] at f0;rw[cI] at f1;obtain⟨s0,e0,-,z0⟩:=DataW.trod_string Tryz.underlying9 (show DataW.trod enc Tryz.prog W 0 (fun _=>true) true n2 9 [c0]=some y0 from f0);obtain⟨k1,e1,-,-⟩:=DataW.trod_int Tryz.underlying3 (show DataW.trod enc Tryz.prog W 0 (fun _=>true) true n2 3 [c1]=some y1 from f1);simp only[List.cons.injEq,and_true] at e0 e1;subst e0 e1;obtain⟨l0,rfl,b0,g0⟩:=Ze5 s0
     exact⟨⟨l0,k1⟩,⟨b0,by rw[g0];exact Nat.le_trans z0 (by decide)⟩,h6⟩)
  refine⟨l,ao,n,c,e4,hl.symm,hmc,hlen,fun b hb=>?_,.inr ⟨g,off,h1,h2,fun j u hj=>?_⟩⟩
  ·obtain⟨i,hi⟩:=List.mem_iff_getElem?.1 hb
   exact (hk i b hi).1
  ·have hjl:=(List.getElem?_eq_some_iff.1 hj).1
   rw[Zb6 Zp1 2 Zm6] at hjl
   have hi:j/2<l.length:=by omega
   have hb:=List.getElem?_eq_getElem hi
   have hjj:j=j/2*2+j%2:=by omega
   have h9:=(hk (j/2) _ hb).2 (j%2) u (by
    rw[← Zda Zp1 2 Zm6 l (j/2) (j%2) _ hb (Nat.mod_lt _ (by decide)),← hjj];exact hj)
   rwa [Nat.add_assoc,← hjj] at h9
theorem Zy1 {fuel:Nat} {v:Value} {y:DataW H×List MemPlace} (h:DataW.trod enc Tryz.prog W 0 (fun _=>true) true fuel 24 [v]=some y) :
  ∃ (l:List Use) (ao:Option Addr) (n c:Nat),v = .slice ao n c∧n=l.length∧n≤c∧n≤9223372036854775807∧(∀ b∈l,True)∧Zal Zcp W ao l:=by
 obtain⟨ao,n,c,e4,hmc,hcm,hel⟩:=Zc5 Tryz.underlying24 Z6j (by decide) h;have hlen:n≤9223372036854775807:=Nat.le_trans hmc (Nat.le_trans hcm (by decide));rcases hel with h0 | ⟨g,off,n',h1,h2,h3,h4⟩
 ·exact⟨[],ao,n,c,e4,h0,hmc,hlen,by simp,.inl rfl⟩
 ·obtain⟨l,hl,hk⟩:=Zev (α:=Use) n (fun i b=>(True)∧Zau W g (off+i*4) (Zcp b)) (fun i hi=>by
   obtain⟨cs,y,h5,h6,h7⟩:=h4 i hi;obtain⟨xs,n2,hn,-,hl,hxl,hf⟩:=DataW.trod_struct Tryz.underlying39 h7
   match cs,h5 with
   | [c0,c1,c2,c3],_ =>
    match xs,hxl with
    | [y0,y1,y2,y3],_ =>
     have f0:DataW.trod enc Tryz.prog W 0 (fun _=>true) true n2 3 (([c0,c1,c2,c3]:List Value).drop 0 |>.take (Tryz.prog.cellsOf 3))=some y0:=hf 0 _ rfl;have f1:DataW.trod enc Tryz.prog W 0 (fun _=>true) true n2 3 (([c0,c1,c2,c3]:List Value).drop 1 |>.take (Tryz.prog.cellsOf 3))=some y1:=hf 1 _ rfl;have f2:DataW.trod enc Tryz.prog W 0 (fun _=>true) true n2 3 (([c0,c1,c2,c3]:List Value).drop 2 |>.take (Tryz.prog.cellsOf 3))=some y2:=hf 2 _ rfl;have f3:DataW.trod enc Tryz.prog W 0 (fun _=>true) true n2 3 (([c0,c1,c2,c3]:List Value).drop 3 |>.take (Tryz.prog.cellsOf 3))=some y3:=hf 3 _ rfl;rw[cI] at f0;rw[cI] at f1;rw[cI] at f2;rw[cI] at f3;obtain⟨k0,e0,-,-⟩:=DataW.trod_int Tryz.underlying3 (show DataW.trod enc Tryz.prog W 0 (fun _=>true) true n2 3 [c0]=some y0 from f0);obtain⟨k1,e1,-,-⟩:=DataW.trod_int Tryz.underlying3 (show DataW.trod enc Tryz.prog W 0 (fun _=>true) true n2 3 [c1]=some y1 from f1);obtain⟨k2,e2,-,-⟩:=DataW.trod_int Tryz.underlying3 (show DataW.trod enc Tryz.prog W 0 (fun _=>true) true n2 3 [c2]=some y2 from f2);obtain⟨k3,e3,-,-⟩:=DataW.trod_int Tryz.underlying3 (show DataW.trod enc Tryz.prog W 0 (fun _=>true) true n2 3 [c3]=some y3 from f3);simp only[List.cons.injEq,and_true] at e0 e1 e2 e3;subst e0 e1 e2 e3
     exact⟨⟨k0,k1,k2,k3⟩,trivial,h6⟩)
  refine⟨l,ao,n,c,e4,hl.symm,hmc,hlen,fun b hb=>?_,.inr ⟨g,off,h1,h2,fun j u hj=>?_⟩⟩
  ·obtain⟨i,hi⟩:=List.mem_iff_getElem?.1 hb
   exact (hk i b hi).1
  ·have hjl:=(List.getElem?_eq_some_iff.1 hj).1
   rw[Zb6 Zcp 4 Zbv] at hjl
   have hi:j/4<l.length:=by omega
   have hb:=List.getElem?_eq_getElem hi
   have hjj:j=j/4*4+j%4:=by omega
   have h9:=(hk (j/4) _ hb).2 (j%4) u (by
    rw[← Zda Zcp 4 Zbv l (j/4) (j%4) _ hb (Nat.mod_lt _ (by decide)),← hjj];exact hj)
   rwa [Nat.add_assoc,← hjj] at h9
theorem Zy2 {fuel:Nat} {v:Value} {y:DataW H×List MemPlace} (h:DataW.trod enc Tryz.prog W 0 (fun _=>true) true fuel 23 [v]=some y) :
  ∃ (l:List Mem) (ao:Option Addr) (n c:Nat),v = .slice ao n c∧n=l.length∧n≤c∧n≤9223372036854775807∧(∀ m∈l,(∀ b∈m.b,NmL b.n)∧m.b.length≤9223372036854775807∧m.t.length≤9223372036854775807)∧Zip W l ao:=by
 obtain⟨ao,n,c,e4,hmc,hcm,hel⟩:=Zc5 Tryz.underlying23 Z65 (by decide) h;have hlen:n≤9223372036854775807:=Nat.le_trans hmc (Nat.le_trans hcm (by decide));rcases hel with h0 | ⟨g,off,n',h1,h2,h3,h4⟩
 ·exact⟨[],ao,n,c,e4,h0,hmc,hlen,by simp,.inl rfl⟩
 ·obtain⟨l,hl,hk⟩:=Zev (α:=Mem) n (fun i m=>((∀ b∈m.b,NmL b.n)∧m.b.length≤9223372036854775807∧m.t.length≤9223372036854775807)∧∃ cs,Zwz W m cs∧Zau W g (off+i*3) cs) (fun i hi=>by
   obtain⟨cs,y,h5,h6,h7⟩:=h4 i hi;obtain⟨xs,n2,hn,-,hl,hxl,hf⟩:=DataW.trod_struct Tryz.underlying44 h7
   match cs,h5 with
   | [c0,c1,c2],_ =>
    match xs,hxl with
    | [y0,y1,y2],_ =>
     have f0:DataW.trod enc Tryz.prog W 0 (fun _=>true) true n2 42 (([c0,c1,c2]:List Value).drop 0 |>.take (Tryz.prog.cellsOf 42))=some y0:=hf 0 _ rfl;have f1:DataW.trod enc Tryz.prog W 0 (fun _=>true) true n2 33 (([c0,c1,c2]:List Value).drop 1 |>.take (Tryz.prog.cellsOf 33))=some y1:=hf 1 _ rfl;have f2:DataW.trod enc Tryz.prog W 0 (fun _=>true) true n2 3 (([c0,c1,c2]:List Value).drop 2 |>.take (Tryz.prog.cellsOf 3))=some y2:=hf 2 _ rfl;rw[cLB] at f0;rw[cLI] at f1;rw[cI] at f2;obtain⟨bl,bo,bn,bc,e0,hb1,hb2,hb3,hb4,hb5⟩:=Zy0 (show DataW.trod enc Tryz.prog W 0 (fun _=>true) true n2 42 [c0]=some y0 from f0);obtain⟨tl,ta,tn,tc,e1,ht1,ht2,ht3,ht4⟩:=Zyy (show DataW.trod enc Tryz.prog W 0 (fun _=>true) true n2 33 [c1]=some y1 from f1);obtain⟨k,e2,-,-⟩:=DataW.trod_int Tryz.underlying3 (show DataW.trod enc Tryz.prog W 0 (fun _=>true) true n2 3 [c2]=some y2 from f2);simp only[List.cons.injEq,and_true] at e2;subst e0 e1 e2 hb1 ht1;refine⟨⟨bl,tl,k⟩,⟨hb4,hb3,ht3⟩,_,⟨bo,bc,ta,tc,rfl,?_,ht4⟩,h6⟩;rcases hb5 with hb5 | ⟨g5,o5,q1,q2,q3⟩
     ·exact .inl hb5
     ·exact .inr ⟨g5,o5,q1,trivial,q2,q3⟩)
  refine⟨l,ao,n,c,e4,hl.symm,hmc,hlen,fun m hm=>?_,.inr ⟨g,off,h1,h2,fun i m hm=>(hk i m hm).2⟩⟩;obtain⟨i,hi⟩:=List.mem_iff_getElem?.1 hm;exact (hk i m hi).1
theorem Z2g {r:Reach} {b0:Nat} {v:Value} {d:DataW H} {p:List MemPlace} (hv:Value.okWide Tryz.prog W r b0 26 v) (h:DataW.Trod enc Tryz.prog W 0 (fun _=>true) true 26 v d p) :
  ∃ (c:Crw) (cs:List Value),v = .agg cs.toArray∧Zid W c cs∧LenC c∧(∀ p∈c.qs,ByL p)∧(∀ m∈c.ms,∀ b∈m.b,NmL b.n):=by
 obtain⟨cs,rfl,hsz⟩:=okWide_struct Tryz.underlying26 hv;obtain⟨fuel,hf⟩:=h;have hcs:(Value.agg cs).cells=cs:=rfl;rw[hcs] at hf;obtain⟨xs,n2,hn,-,hl,hxl,hf⟩:=DataW.trod_struct Tryz.underlying26 hf
 have hl3:cs.toList.length=3:=by rw[hl];kernel_rfl
 obtain⟨l0⟩:=cs
 match l0,hl3 with
 | [c0,c1,c2],_ =>
  match xs,hxl with
  | [y0,y1,y2],_ =>
   have f0:DataW.trod enc Tryz.prog W 0 (fun _=>true) true n2 22 (([c0,c1,c2]:List Value).drop 0 |>.take (Tryz.prog.cellsOf 22))=some y0:=hf 0 _ rfl;have f1:DataW.trod enc Tryz.prog W 0 (fun _=>true) true n2 23 (([c0,c1,c2]:List Value).drop 1 |>.take (Tryz.prog.cellsOf 23))=some y1:=hf 1 _ rfl;have f2:DataW.trod enc Tryz.prog W 0 (fun _=>true) true n2 24 (([c0,c1,c2]:List Value).drop 2 |>.take (Tryz.prog.cellsOf 24))=some y2:=hf 2 _ rfl;rw[cLP] at f0;rw[cLM] at f1;rw[cLS] at f2;obtain⟨ql,qo,qn,qc,e0,hq1,hq2,hq3,hq4,hq5,hq6⟩:=Zyz (show DataW.trod enc Tryz.prog W 0 (fun _=>true) true n2 22 [c0]=some y0 from f0);obtain⟨ml,mo,mn,mc,e1,hm1,hm2,hm3,hm4,hm5⟩:=Zy2 (show DataW.trod enc Tryz.prog W 0 (fun _=>true) true n2 23 [c1]=some y1 from f1);obtain⟨ul,uo,un,uc,e2,hu1,hu2,hu3,-,hu5⟩:=Zy1 (show DataW.trod enc Tryz.prog W 0 (fun _=>true) true n2 24 [c2]=some y2 from f2);subst e0 e1 e2 hq1 hm1 hu1;exact⟨⟨ql,ml,ul⟩,_,rfl,⟨qo,qc,mo,mc,uo,uc,rfl,hq4,hm5,hu5,hu2⟩,⟨hq6,fun m hm=>(hm4 m hm).2,hq3,hm3,hu3⟩,hq5,fun m hm=>(hm4 m hm).1⟩
end
theorem Z4n {c:Crw} (hf:Z5q c=true) (hL:LenC c) (hb:∀ p∈c.qs,ByL p) (hm:∀ m∈c.ms,∀ b∈m.b,NmL b.n):CrwOk c∧c.us.length≤999∧c.ms.length≤65∧c.qs.length≤129:=by
 unfold Z5q at hf;simp only[Bool.and_eq_true,List.all_eq_true] at hf;obtain⟨⟨h1,h2⟩,h3⟩:=hf;unfold Ze6 at h1;simp only[Bool.and_eq_true,Bool.or_eq_true,decide_eq_true_eq] at h1;refine⟨⟨fun p hp=>⟨hb p hp,?_⟩,fun m hmm=>⟨hm m hmm,?_,?_⟩,by omega,by omega,by omega⟩,by omega,by omega,by omega⟩
 ·have:=Z3q (h2 p hp);omega
 ·have:=h3 m hmm
  unfold Zyx at this;simp only[Bool.and_eq_true,decide_eq_true_eq] at this;omega
 ·have:=h3 m hmm
  unfold Zyx at this;simp only[Bool.and_eq_true,decide_eq_true_eq] at this;omega
end
section
open Go Go.ChangeShapes Go.WideShapes Go.ChangeAt Go.WideMaps Go.WideElems Go.RowKit
section
variable {H:Type} {enc:TypeId×Value→H} {W:World}
theorem Z2h {fuel:Nat} {cs:List Value} {y:DataW H×List MemPlace} (hl:cs.length=4) (h:DataW.trod enc Tryz.prog W 0 (fun _=>true) true fuel 39 cs=some y):∃ x:Use,cs=Zcp x:=by
 obtain⟨xs,n2,hn,-,hl2,hxl,hf⟩:=DataW.trod_struct Tryz.underlying39 h
 match cs,hl with
 | [c0,c1,c2,c3],_ =>
  match xs,hxl with
  | [y0,y1,y2,y3],_ =>
   have f0:DataW.trod enc Tryz.prog W 0 (fun _=>true) true n2 3 (([c0,c1,c2,c3]:List Value).drop 0 |>.take (Tryz.prog.cellsOf 3))=some y0:=hf 0 _ rfl;have f1:DataW.trod enc Tryz.prog W 0 (fun _=>true) true n2 3 (([c0,c1,c2,c3]:List Value).drop 1 |>.take (Tryz.prog.cellsOf 3))=some y1:=hf 1 _ rfl;have f2:DataW.trod enc Tryz.prog W 0 (fun _=>true) true n2 3 (([c0,c1,c2,c3]:List Value).drop 2 |>.take (Tryz.prog.cellsOf 3))=some y2:=hf 2 _ rfl;have f3:DataW.trod enc Tryz.prog W 0 (fun _=>true) true n2 3 (([c0,c1,c2,c3]:List Value).drop 3 |>.take (Tryz.prog.cellsOf 3))=some y3:=hf 3 _ rfl;rw[cI] at f0 f1 f2 f3;obtain⟨k0,e0,-,-⟩:=DataW.trod_int Tryz.underlying3 (show DataW.trod enc Tryz.prog W 0 (fun _=>true) true n2 3 [c0]=some y0 from f0);obtain⟨k1,e1,-,-⟩:=DataW.trod_int Tryz.underlying3 (show DataW.trod enc Tryz.prog W 0 (fun _=>true) true n2 3 [c1]=some y1 from f1);obtain⟨k2,e2,-,-⟩:=DataW.trod_int Tryz.underlying3 (show DataW.trod enc Tryz.prog W 0 (fun _=>true) true n2 3 [c2]=some y2 from f2);obtain⟨k3,e3,-,-⟩:=DataW.trod_int Tryz.underlying3 (show DataW.trod enc Tryz.prog W 0 (fun _=>true) true n2 3 [c3]=some y3 from f3);simp only[List.cons.injEq,and_true] at e0 e1 e2 e3;subst e0 e1 e2 e3;exact⟨⟨k0,k1,k2,k3⟩,rfl⟩
theorem Z2i {r:Reach} {b0:Nat} {v:Value} {d:DataW H} {p:List MemPlace} (hv:Value.okWide Tryz.prog W r b0 39 v) (h:DataW.Trod enc Tryz.prog W 0 (fun _=>true) true 39 v d p) :
  ∃ (x:Use),v = .agg (Zcp x).toArray:=by
 obtain⟨cs,rfl,hsz⟩:=okWide_struct Tryz.underlying39 hv;obtain⟨fuel,hf⟩:=h;have hcs:(Value.agg cs).cells=cs:=rfl;rw[hcs] at hf
 have hl:cs.toList.length=4:=by
  obtain⟨xs,n2,hn,-,hl,hxl,-⟩:=DataW.trod_struct Tryz.underlying39 hf;rw[hl];kernel_rfl
 obtain⟨x,hx⟩:=Z2h hl hf;exact⟨x,by rw[← hx]⟩
end
end
section
open Go.RowKit Go.Sort Go.Maps
theorem Zae.off {w:World} {g:Nat} {t:TypeId} {cs:List Value} (h:Zae w g t cs) {p:Addr} (hp:g≠p.block) (u:Value):Zae (w.setCell p u) g t cs:=by
 unfold Zae;rw[Below.heap_setCell _ _ _ _ hp];exact h
def Z66 (x:Use) (m:Int):Use:=⟨x.q,x.w,x.f,m⟩
def Zup (c:Crw) (us:List Use):Crw:=⟨c.qs,c.ms,us⟩
theorem Zy3 (c:Crw) (us:List Use):Zb2 (Zup c us)=us.map (Zed c (Zak c)):=rfl
theorem Zuq (c:Crw):Zaq c=true↔c.qs.length≤128∧c.ms.length≤64∧c.us.length≤4096∧(∀ p∈c.qs,Zas p=true)∧(∀ m∈c.ms,Zeu m=true)∧∀ x∈c.us,Zcb c.qs.length c.ms.length x=true:=by
 constructor
 ·exact Zat
 ·rintro⟨h1,h2,h3,h4,h5,h6⟩
  unfold Zaq;rw[decide_eq_true h1,decide_eq_true h2,decide_eq_true h3]
  have e1:c.qs.any (fun q=>!Zas q)=false:=by rw[List.any_eq_false];intro q hq;rw[h4 q hq];decide
  have e2:c.ms.any (fun m=>!Zeu m)=false:=by rw[List.any_eq_false];intro q hq;rw[h5 q hq];decide
  have e3:c.us.any (fun x=>!Zcb c.qs.length c.ms.length x)=false:=by rw[List.any_eq_false];intro q hq;rw[h6 q hq];decide
  rw[e1,e2,e3];rfl
theorem Zrc {c:Crw} {us:List Use} (h:Zaq c=true) (hl:us.length≤4096) (hu:∀ x∈us,Zcb c.qs.length c.ms.length x=true):Zaq (Zup c us)=true:=by
 obtain⟨h1,h2,h3,h4,h5,h6⟩:=Zat h;exact (Zuq _).2 ⟨h1,h2,hl,h4,h5,hu⟩
def Z67 (c:Crw) (u:Nat) (m:Int):Crw:=Zup c (c.us.set u (Z66 (c.us.getD u ⟨0,0,0,0⟩) m))
theorem Z4o (c:Crw) (H:List (List Bool)) (x:Use) {k:Nat} (hk:k<c.ms.length):(Zed c H x).getD k false=Zzq c H x k:=by
 unfold Zed;rw[List.getD_eq_getElem?_getD,List.getElem?_map,List.getElem?_range hk];rfl
theorem Zy4 {c:Crw} (us:List Use) {v:Nat} (hv:v<us.length) {k:Nat} (hk:k<c.ms.length):(Zbs (Zup c us) (Zb2 (Zup c us))).can v k=Zzq c (Zak c) (us.getD v ⟨0,0,0,0⟩) k:=by
 show ((us.map (Zed c (Zak c))).getD v []).getD k false=_
 have h1:(us.map (Zed c (Zak c))).getD v []=Zed c (Zak c) us[v]:=by rw[List.getD_eq_getElem?_getD,List.getElem?_map,List.getElem?_eq_getElem hv];rfl
 have h2:us.getD v ⟨0,0,0,0⟩=us[v]:=by rw[List.getD_eq_getElem?_getD,List.getElem?_eq_getElem hv];rfl
 rw[h1,h2,Z4o c _ _ hk]
end
section
open Go.RowKit Go.Sort Go.Maps
theorem Zmm (c:Crw) (x:Use):Zbi c x=Zup c (c.us++[x]):=rfl
theorem Zy5 (c:Crw) (x:Use):Zb2 (Zbi c x)=Zb2 c++[Zed c (Zak c) x]:=by
 rw[Zmm,Zy3,List.map_append];rfl
theorem Zh5 {c:Crw} (hv:Zaq c=true) (hn:c.us.length≤999) (x:Use):Zaq (Zbi c x)=Zcb c.qs.length c.ms.length x:=by
 obtain⟨h1,h2,h3,h4,h5,h6⟩:=Zat hv;rw[Bool.eq_iff_iff];constructor
 ·intro h
  exact (Zat h).2.2.2.2.2 x (by show x∈c.us++[x];simp)
 ·intro h
  refine Zrc hv (by simp;omega) (fun y hy=>?_);rcases List.mem_append.1 hy with g | g
  ·exact h6 y g
  ·rw[List.mem_singleton.1 g];exact h
theorem Zk0 {c:Crw} (hv:Zaq c=true) (x:Use):Zdk c x=Zcb c.qs.length c.ms.length x:=by
 unfold Zdk;rw[hv,Bool.true_and]
theorem Zy6 {c:Crw} (hv:Zaq c=true) (hn:c.us.length≤999) {x:Use} (h:Zaq (Zbi c x)=false):Zff c x=[]:=by
 have hp:=Zk0 hv x;rw[← Zh5 hv hn,h] at hp;unfold Zff;rw[hp,if_neg (by decide)]
end
section
open Go.RowKit Go.Sort Go.Maps
def Znp (a b:List Int):Bool:=a.all (fun x=>b.any (fun y=>x==y))
theorem Zy7 {a b:List Int}:Znp a b=true↔∀ x∈a,x∈b:=by
 unfold Znp;rw[List.all_eq_true];constructor
 ·intro h x hx
  obtain⟨y,hy,e⟩:=List.any_eq_true.1 (h x hx);rw[beq_iff_eq] at e;rw[e];exact hy
 ·intro h x hx
  exact List.any_eq_true.2 ⟨x,h x hx,by simp⟩
theorem Z2j (w:World) (a b:List Int) (ao bo:Option Addr) (ac bc:Nat) (ha:Zal Zbk w ao a) (hb:Zal Zbk w bo b) (hl:a.length≤1000000) (hl2:b.length≤1000000) :
  Calls Tryz.prog 26 #[.slice ao a.length ac,.slice bo b.length bc] w fun e w'=>e = .returned (.bool (Znp a b))∧Below w.heap.size w w':=by
 have HA:=ħ (fun W (hW:Below w.heap.size w W)=>ha.below hW);have HB:=ħ (fun W (hW:Below w.heap.size w W)=>hb.below hW);have HGA:Hid (∀ (i:Nat),i<a.length→∃ x,a[i]?=some x):=ħ (fun i h=>⟨_,List.getElem?_eq_getElem h⟩);have HGB:Hid (∀ (i:Nat),i<b.length→∃ x,b[i]?=some x):=ħ (fun i h=>⟨_,List.getElem?_eq_getElem h⟩)
 have HNB:Hid (∀ (x:Int) (k:Nat) (y:Int),b[k]?=some y→(b.take (k+1)).any (fun z=>x==z)=((b.take k).any (fun z=>x==z)||(x==y))):=ħ (fun x k y hy=>by
  rw[List.take_add_one,hy,List.any_append];simp)
 have HEB:Hid (∀ x:Int,(b.take b.length).any (fun z=>x==z)=b.any (fun z=>x==z)):=ħ (fun x=>by rw[List.take_length])
 have HNA:Hid (∀ (i:Nat) (x:Int),a[i]?=some x→(a.take (i+1)).all (fun x=>b.any (fun y=>x==y))=((a.take i).all (fun x=>b.any (fun y=>x==y))&&b.any (fun y=>x==y))):=ħ (fun i x hx=>by
  rw[List.take_add_one,hx,List.all_append];simp)
 have HEA:Hid ((a.take a.length).all (fun x=>b.any (fun y=>x==y))=Znp a b):=ħ (by rw[List.take_length];rfl)
 have HFA:Hid (∀ (i:Nat) (x:Int),a[i]?=some x→b.any (fun y=>x==y)=false→Znp a b=false):=ħ (fun i x hx h=>by
  unfold Znp;rw[List.all_eq_false]
  exact⟨x,List.mem_of_getElem? hx,by rw[h];decide⟩)
 clear ha hb;generalize Znp a b=DE at *;generalize hal:a.length=al at *;generalize hbl:b.length=bl at *;clear hal hbl
 go_enter Tryz.func26,Tryz.ntmps26
 go_wp2_with fail
 go_loopw [5] (fun iv wr=>∃ (i:Nat),iv = .int .i64 i∧i≤al∧Hid ((a.take i).all (fun x=>b.any (fun y=>x==y))=true)∧Hid (Below w.heap.size w wr)) (fun i _=>(al-intOf i).toNat)
 case atStart=>exact⟨0,rfl,by omega,ħ rfl,ħ (Below.refl _ _)⟩
 case round =>
  obtain⟨i,rfl,hi,HJ,BB⟩:=hrel;have e2:IntKind.i64.wrap ((i:Int)+1)=((i+1:Nat):Int):=IntWalk.i64_in _ (by omega);by_cases hin:i<al
  ·have ii:(i:Int)<al:=by omega
   obtain⟨x,hx⟩:=HGA.o i hin;have HX:=ħ hx;clear hx
   go_upto_region 6 with (fail)
   go_wp2_with fail
   generalize wr=wo at *
   go_loopw [6,7] (fun fv kv wr=>∃ (k:Nat),kv = .int .i64 k∧k≤bl∧fv = .bool ((b.take k).any (fun z=>x==z))∧Hid (Below w.heap.size w wr)) (fun _ k _=>(bl-intOf k).toNat)
   case atStart=>exact⟨0,rfl,by omega,rfl,BB⟩
   case round =>
    clear BB;obtain⟨k,rfl,hk,rfl,BB⟩:=hrel;have e3:IntKind.i64.wrap ((k:Int)+1)=((k+1:Nat):Int):=IntWalk.i64_in _ (by omega);by_cases hkn:k<bl
    ·have kk:(k:Int)<bl:=by omega
     obtain⟨y,hy⟩:=HGB.o k hkn;have HN:=ħ (HNB.o x k y hy);obtain⟨ga,oa,hao,hga,a0⟩:=(HA.o wr BB.o).int i x HX.o;obtain⟨gb,ob,hbo,hgb,b0⟩:=(HB.o wr BB.o).int k y hy;have HAO:=ħ hao;have HBO:=ħ hbo;subst hao;subst hbo;clear hga hgb hy;obtain⟨fb,hfb⟩:∃ t,(b.take k).any (fun z=>x==z)=t:=⟨_,rfl⟩;rw[hfb] at HN ⊢;clear hfb
     cases fb with
     | true =>
      go_upto_region 8 with (fail)
      go_quiet (fail)
      have B3:=ħ (below_drewN BB.o nq);clear a0 b0 BB;generalize wr.drewN nq=wd at *
      go_wp2_with fail
      go_roundw
      case rel=>exact⟨k+1,by go_num,by omega,by rw[HN.o];rfl,B3⟩
      case measure=>simp only[intOf];omega
     | false =>
      obtain⟨xb,hxb⟩:∃ t,(x==y)=t:=⟨_,rfl⟩;rw[hxb] at HN
      cases xb with
      | true =>
       go_upto_region 8 with (fail)
       go_quiet (fail)
       have B3:=ħ (below_drewN BB.o nq);clear a0 b0 BB;generalize wr.drewN nq=wd at *
       go_wp2_with fail
       go_roundw
       case rel=>exact⟨k+1,by go_num,by omega,by rw[HN.o];rfl,B3⟩
       case measure=>simp only[intOf];omega
      | false =>
       go_upto_region 8 with (fail)
       go_quiet (fail)
       have B3:=ħ (below_drewN BB.o nq);clear a0 b0 BB;generalize wr.drewN nq=wd at *
       go_wp2_with fail
       go_roundw
       case rel=>exact⟨k+1,by go_num,by omega,by rw[HN.o];rfl,B3⟩
       case measure=>simp only[intOf];omega
    ·have kk:¬ (k:Int)<bl:=by omega
     obtain rfl:k=bl:=by omega
     rw[HEB.o x];have HNX:=ħ (HNA.o i x HX.o);have HFX:=ħ (HFA.o i x HX.o);obtain⟨fb,hfb⟩:∃ t,b.any (fun z=>x==z)=t:=⟨_,rfl⟩;rw[hfb] at HNX HFX ⊢;clear hfb
     cases fb with
     | true =>
      go_wp2_with fail
      go_roundw
      case rel=>exact⟨i+1,by go_num,by omega,ħ (by rw[HNX.o,HJ.o];rfl),BB⟩
      case measure=>simp only[intOf];omega
     | false =>
      have HD:=ħ (HFX.o rfl)
      go_wp2_with fail
      go_ret;exact⟨by rw[HD.o];rfl,BB.o⟩
  ·have ii:¬ (i:Int)<al:=by omega
   obtain rfl:al=i:=by omega
   have HD:Hid (DE=true):=ħ (by rw[← HEA.o];exact HJ.o)
   go_wp2_with fail
   go_ret;exact⟨by rw[HD.o];rfl,BB.o⟩
end
section
open Go.RowKit Go.Sort Go.Maps
theorem Zps (w:World) (c:Crw) (cs:List Value) (B:Nat) (x:Use) (ha:ArgC w c cs B) :
  Calls Tryz.prog 39 #[.agg cs.toArray,.agg (Zcp x).toArray] w fun e w'=>Below w.heap.size w w'∧∃ o cap,e = .returned (.slice o (Zff c x).length cap)∧Zal Zbk w' o ((Zff c x).map Int.ofNat):=by
 refine (Zsz w c cs B x ha).mono ?_;intro e w' h;unfold Znh at h;obtain⟨⟨o,cap,h1,h2⟩,hb⟩:=h;exact⟨hb,o,cap,h1,Zez h2 rfl⟩
end
end Go.Proofs.YtbcgocpihobjnaaGreatDoor
