import Derived.Test.YtbcgocpihobjnaaGreatDoorCU43
import Derived.Test.YtbcgocpihobjnaaGreatDoorCU39
import Derived.Test.YtbcgocpihobjnaaGreatDoorCU37
import Derived.Test.YtbcgocpihobjnaaGreatDoorCU33
import Derived.Test.YtbcgocpihobjnaaGreatDoorCU41
import Derived.Test.YtbcgocpihobjnaaGreatDoorCU23
import Derived.Test.YtbcgocpihobjnaaGreatDoorCU12
import Derived.Test.YtbcgocpihobjnaaGreatDoorCU40
import Derived.Test.YtbcgocpihobjnaaGreatDoorCU34
import Derived.Test.YtbcgocpihobjnaaGreatDoorCU26
import Derived.Test.YtbcgocpihobjnaaGreatDoorCU25
import Derived.Test.YtbcgocpihobjnaaGreatDoorCU22
set_option linter.all false
set_option maxRecDepth 100000
namespace Go.Proofs.YtbcgocpihobjnaaGreatDoor
section
open Go Go.ChangeShapes Go.WideShapes Go.ChangeAt Go.WideMaps Go.WideElems Go.RowKit
theorem Zzh:Tryz.prog.cellsOf 44=3:=by kernel_rfl
theorem Zyz:Tryz.prog.cellsOf 39=4:=by kernel_rfl
theorem cLP:Tryz.prog.cellsOf 22=1:=by kernel_rfl
theorem cLB:Tryz.prog.cellsOf 42=1:=by kernel_rfl
theorem cLI:Tryz.prog.cellsOf 33=1:=by kernel_rfl
theorem cLM:Tryz.prog.cellsOf 23=1:=by kernel_rfl
theorem cLS:Tryz.prog.cellsOf 24=1:=by kernel_rfl
instance:Inhabited Use:=⟨⟨0,0,0,0⟩⟩
instance:Inhabited Wsh:=⟨⟨0,0⟩⟩
instance:Inhabited Mem:=⟨⟨[],[],0⟩⟩
section
variable {H:Type} {enc:TypeId×Value→H} {W:World}
theorem Zs0 {fuel:Nat} {v:Value} {y:DataW H×List MemPlace} (h:DataW.trod enc Tryz.prog W 0 (fun _=>true) true fuel 33 [v]=some y) :
  ∃ (l:List Int) (ao:Option Addr) (n c:Nat),v = .slice ao n c∧n=l.length∧n≤c∧n≤9223372036854775807∧Zaj Za9 W ao l:=by
 obtain⟨ao,n,c,e4,hmc,hcm,hel⟩:=Zbz Tryz.underlying33 cI (by decide) h;have hlen:n≤9223372036854775807:=Nat.le_trans hmc (Nat.le_trans hcm (by decide));rcases hel with h0 | ⟨g,off,n',h1,h2,h3,h4⟩
 ·exact⟨[],ao,n,c,e4,h0,hmc,hlen,.inl rfl⟩
 ·obtain⟨l,hl,hk⟩:=Zc5 (α:=Int) n (fun i x=>W.cell? ⟨g,off+i,none⟩=some (.int .i64 x)) (fun i hi=>by
   obtain⟨cs,y,h5,h6,h7⟩:=h4 i hi
   match cs,h5 with
   | [c0],_ =>
    obtain⟨k,e0,-,-⟩:=DataW.trod_int Tryz.underlying3 h7;simp only[List.cons.injEq,and_true] at e0;subst e0;have:=h6 0 _ rfl;rw[Nat.mul_one,Nat.add_zero] at this
    exact⟨k,this⟩)
  refine⟨l,ao,n,c,e4,hl.symm,hmc,hlen,.inr ⟨g,off,h1,h2,fun j u hj=>?_⟩⟩;rw[← Zdi,ivs,List.getElem?_map] at hj;obtain⟨x,hx,rfl⟩:=Option.map_eq_some_iff.1 hj;exact hk j x hx
theorem Zs1 {fuel:Nat} {v:Value} {y:DataW H×List MemPlace} (h:DataW.trod enc Tryz.prog W 0 (fun _=>true) true fuel 22 [v]=some y) :
  ∃ (l:List Prd) (ao:Option Addr) (n c:Nat),v = .slice ao n c∧n=l.length∧n≤c∧n≤9223372036854775807∧Ze8 W (fun _=>True) l ao∧(∀ p∈l,ByL p)∧(∀ p∈l,Zq3 p):=by
 obtain⟨ao,n,c,e4,hmc,hcm,hel⟩:=Zbz Tryz.underlying22 cP (by decide) h;have hlen:n≤9223372036854775807:=Nat.le_trans hmc (Nat.le_trans hcm (by decide));rcases hel with h0 | ⟨g,off,n',h1,h2,h3,h4⟩
 ·exact⟨[],ao,n,c,e4,h0,hmc,hlen,.inl rfl,by simp,by simp⟩
 ·obtain⟨ks,hkl,hk⟩:=Zc5 (α:=Prd) n (fun i p=>(∃ vs,Zal W (fun g=>g<W.heap.size) p vs∧Zaw W g (off+i*5) vs)∧ByL p∧Zq3 p) (fun i hi=>by
   obtain⟨cs,y,h5,h6,h7⟩:=h4 i hi;obtain⟨p,hp1,hp2,hp3⟩:=Zr6 n' cs y h7
   exact⟨p,⟨cs,hp1,h6⟩,hp2,hp3⟩)
  have hpr:Ze8 W (fun g=>g<W.heap.size) ks ao:=.inr ⟨g,off,h1,h2,h2,Zj6 ks g off (fun i p hp=>(hk i p hp).1)⟩;refine⟨ks,ao,n,c,e4,hkl.symm,hmc,hlen,hpr.mono (fun _ _ _=>trivial),fun q hq=>?_,fun q hq=>?_⟩
  ·obtain⟨i,hi⟩:=List.mem_iff_getElem?.1 hq
   exact (hk i q hi).2.1
  ·obtain⟨i,hi⟩:=List.mem_iff_getElem?.1 hq
   exact (hk i q hi).2.2
theorem Zs2 {fuel:Nat} {v:Value} {y:DataW H×List MemPlace} (h:DataW.trod enc Tryz.prog W 0 (fun _=>true) true fuel 42 [v]=some y) :
  ∃ (l:List Bnd) (ao:Option Addr) (n c:Nat),v = .slice ao n c∧n=l.length∧n≤c∧n≤9223372036854775807∧(∀ b∈l,NmL b.n)∧Zaj Zvy W ao l:=by
 obtain⟨ao,n,c,e4,hmc,hcm,hel⟩:=Zbz Tryz.underlying42 cB (by decide) h;have hlen:n≤9223372036854775807:=Nat.le_trans hmc (Nat.le_trans hcm (by decide));rcases hel with h0 | ⟨g,off,n',h1,h2,h3,h4⟩
 ·exact⟨[],ao,n,c,e4,h0,hmc,hlen,by simp,.inl rfl⟩
 ·obtain⟨l,hl,hk⟩:=Zc5 (α:=Bnd) n (fun i b=>(NmL b.n)∧Zaw W g (off+i*2) (Zvy b)) (fun i hi=>by
   obtain⟨cs,y,h5,h6,h7⟩:=h4 i hi;obtain⟨xs,n2,hn,-,hl,hxl,hf⟩:=DataW.trod_struct Tryz.underlying164 h7
   match cs,h5 with
   | [c0,c1],_ =>
    match xs,hxl with
    | [y0,y1],_ =>
     have f0:DataW.trod enc Tryz.prog W 0 (fun _=>true) true n2 9 (([c0,c1]:List Value).drop 0 |>.take (Tryz.prog.cellsOf 9))=some y0:=hf 0 _ rfl;have f1:DataW.trod enc Tryz.prog W 0 (fun _=>true) true n2 3 (([c0,c1]:List Value).drop 1 |>.take (Tryz.prog.cellsOf 3))=some y1:=hf 1 _ rfl;rw[cS] at f0;rw[cI] at f1;obtain⟨s0,e0,-,z0⟩:=DataW.trod_string Tryz.underlying9 (show DataW.trod enc Tryz.prog W 0 (fun _=>true) true n2 9 [c0]=some y0 from f0);obtain⟨k1,e1,-,-⟩:=DataW.trod_int Tryz.underlying3 (show DataW.trod enc Tryz.prog W 0 (fun _=>true) true n2 3 [c1]=some y1 from f1);simp only[List.cons.injEq,and_true] at e0 e1;subst e0 e1;obtain⟨l0,rfl,b0,g0⟩:=Zd0 s0
     exact⟨⟨l0,k1⟩,⟨b0,by rw[g0];exact Nat.le_trans z0 (by decide)⟩,h6⟩)
  refine⟨l,ao,n,c,e4,hl.symm,hmc,hlen,fun b hb=>?_,.inr ⟨g,off,h1,h2,fun j u hj=>?_⟩⟩
  ·obtain⟨i,hi⟩:=List.mem_iff_getElem?.1 hb
   exact (hk i b hi).1
  ·have hjl:=(List.getElem?_eq_some_iff.1 hj).1
   rw[Zbo Zvy 2 Zj3] at hjl
   have hi:j/2<l.length:=by omega
   have hb:=List.getElem?_eq_getElem hi
   have hjj:j=j/2*2+j%2:=by omega
   have h9:=(hk (j/2) _ hb).2 (j%2) u (by
    rw[← Zcj Zvy 2 Zj3 l (j/2) (j%2) _ hb (Nat.mod_lt _ (by decide)),← hjj];exact hj)
   rwa [Nat.add_assoc,← hjj] at h9
theorem Zs3 {fuel:Nat} {v:Value} {y:DataW H×List MemPlace} (h:DataW.trod enc Tryz.prog W 0 (fun _=>true) true fuel 24 [v]=some y) :
  ∃ (l:List Use) (ao:Option Addr) (n c:Nat),v = .slice ao n c∧n=l.length∧n≤c∧n≤9223372036854775807∧(∀ b∈l,True)∧Zaj Zcb W ao l:=by
 obtain⟨ao,n,c,e4,hmc,hcm,hel⟩:=Zbz Tryz.underlying24 Zyz (by decide) h;have hlen:n≤9223372036854775807:=Nat.le_trans hmc (Nat.le_trans hcm (by decide));rcases hel with h0 | ⟨g,off,n',h1,h2,h3,h4⟩
 ·exact⟨[],ao,n,c,e4,h0,hmc,hlen,by simp,.inl rfl⟩
 ·obtain⟨l,hl,hk⟩:=Zc5 (α:=Use) n (fun i b=>(True)∧Zaw W g (off+i*4) (Zcb b)) (fun i hi=>by
   obtain⟨cs,y,h5,h6,h7⟩:=h4 i hi;obtain⟨xs,n2,hn,-,hl,hxl,hf⟩:=DataW.trod_struct Tryz.underlying39 h7
   match cs,h5 with
   | [c0,c1,c2,c3],_ =>
    match xs,hxl with
    | [y0,y1,y2,y3],_ =>
     have f0:DataW.trod enc Tryz.prog W 0 (fun _=>true) true n2 3 (([c0,c1,c2,c3]:List Value).drop 0 |>.take (Tryz.prog.cellsOf 3))=some y0:=hf 0 _ rfl;have f1:DataW.trod enc Tryz.prog W 0 (fun _=>true) true n2 3 (([c0,c1,c2,c3]:List Value).drop 1 |>.take (Tryz.prog.cellsOf 3))=some y1:=hf 1 _ rfl;have f2:DataW.trod enc Tryz.prog W 0 (fun _=>true) true n2 3 (([c0,c1,c2,c3]:List Value).drop 2 |>.take (Tryz.prog.cellsOf 3))=some y2:=hf 2 _ rfl;have f3:DataW.trod enc Tryz.prog W 0 (fun _=>true) true n2 3 (([c0,c1,c2,c3]:List Value).drop 3 |>.take (Tryz.prog.cellsOf 3))=some y3:=hf 3 _ rfl;rw[cI] at f0;rw[cI] at f1;rw[cI] at f2;rw[cI] at f3;obtain⟨k0,e0,-,-⟩:=DataW.trod_int Tryz.underlying3 (show DataW.trod enc Tryz.prog W 0 (fun _=>true) true n2 3 [c0]=some y0 from f0);obtain⟨k1,e1,-,-⟩:=DataW.trod_int Tryz.underlying3 (show DataW.trod enc Tryz.prog W 0 (fun _=>true) true n2 3 [c1]=some y1 from f1);obtain⟨k2,e2,-,-⟩:=DataW.trod_int Tryz.underlying3 (show DataW.trod enc Tryz.prog W 0 (fun _=>true) true n2 3 [c2]=some y2 from f2);obtain⟨k3,e3,-,-⟩:=DataW.trod_int Tryz.underlying3 (show DataW.trod enc Tryz.prog W 0 (fun _=>true) true n2 3 [c3]=some y3 from f3);simp only[List.cons.injEq,and_true] at e0 e1 e2 e3;subst e0 e1 e2 e3
     exact⟨⟨k0,k1,k2,k3⟩,trivial,h6⟩)
  refine⟨l,ao,n,c,e4,hl.symm,hmc,hlen,fun b hb=>?_,.inr ⟨g,off,h1,h2,fun j u hj=>?_⟩⟩
  ·obtain⟨i,hi⟩:=List.mem_iff_getElem?.1 hb
   exact (hk i b hi).1
  ·have hjl:=(List.getElem?_eq_some_iff.1 hj).1
   rw[Zbo Zcb 4 Zbf] at hjl
   have hi:j/4<l.length:=by omega
   have hb:=List.getElem?_eq_getElem hi
   have hjj:j=j/4*4+j%4:=by omega
   have h9:=(hk (j/4) _ hb).2 (j%4) u (by
    rw[← Zcj Zcb 4 Zbf l (j/4) (j%4) _ hb (Nat.mod_lt _ (by decide)),← hjj];exact hj)
   rwa [Nat.add_assoc,← hjj] at h9
theorem Zs4 {fuel:Nat} {v:Value} {y:DataW H×List MemPlace} (h:DataW.trod enc Tryz.prog W 0 (fun _=>true) true fuel 23 [v]=some y) :
  ∃ (l:List Mem) (ao:Option Addr) (n c:Nat),v = .slice ao n c∧n=l.length∧n≤c∧n≤9223372036854775807∧(∀ m∈l,(∀ b∈m.b,NmL b.n)∧m.b.length≤9223372036854775807∧m.t.length≤9223372036854775807)∧Zgm W l ao:=by
 obtain⟨ao,n,c,e4,hmc,hcm,hel⟩:=Zbz Tryz.underlying23 Zzh (by decide) h;have hlen:n≤9223372036854775807:=Nat.le_trans hmc (Nat.le_trans hcm (by decide));rcases hel with h0 | ⟨g,off,n',h1,h2,h3,h4⟩
 ·exact⟨[],ao,n,c,e4,h0,hmc,hlen,by simp,.inl rfl⟩
 ·obtain⟨l,hl,hk⟩:=Zc5 (α:=Mem) n (fun i m=>((∀ b∈m.b,NmL b.n)∧m.b.length≤9223372036854775807∧m.t.length≤9223372036854775807)∧∃ cs,Zre W m cs∧Zaw W g (off+i*3) cs) (fun i hi=>by
   obtain⟨cs,y,h5,h6,h7⟩:=h4 i hi;obtain⟨xs,n2,hn,-,hl,hxl,hf⟩:=DataW.trod_struct Tryz.underlying44 h7
   match cs,h5 with
   | [c0,c1,c2],_ =>
    match xs,hxl with
    | [y0,y1,y2],_ =>
     have f0:DataW.trod enc Tryz.prog W 0 (fun _=>true) true n2 42 (([c0,c1,c2]:List Value).drop 0 |>.take (Tryz.prog.cellsOf 42))=some y0:=hf 0 _ rfl;have f1:DataW.trod enc Tryz.prog W 0 (fun _=>true) true n2 33 (([c0,c1,c2]:List Value).drop 1 |>.take (Tryz.prog.cellsOf 33))=some y1:=hf 1 _ rfl;have f2:DataW.trod enc Tryz.prog W 0 (fun _=>true) true n2 3 (([c0,c1,c2]:List Value).drop 2 |>.take (Tryz.prog.cellsOf 3))=some y2:=hf 2 _ rfl;rw[cLB] at f0;rw[cLI] at f1;rw[cI] at f2;obtain⟨bl,bo,bn,bc,e0,hb1,hb2,hb3,hb4,hb5⟩:=Zs2 (show DataW.trod enc Tryz.prog W 0 (fun _=>true) true n2 42 [c0]=some y0 from f0);obtain⟨tl,ta,tn,tc,e1,ht1,ht2,ht3,ht4⟩:=Zs0 (show DataW.trod enc Tryz.prog W 0 (fun _=>true) true n2 33 [c1]=some y1 from f1);obtain⟨k,e2,-,-⟩:=DataW.trod_int Tryz.underlying3 (show DataW.trod enc Tryz.prog W 0 (fun _=>true) true n2 3 [c2]=some y2 from f2);simp only[List.cons.injEq,and_true] at e2;subst e0 e1 e2 hb1 ht1;refine⟨⟨bl,tl,k⟩,⟨hb4,hb3,ht3⟩,_,⟨bo,bc,ta,tc,rfl,?_,ht4⟩,h6⟩;rcases hb5 with hb5 | ⟨g5,o5,q1,q2,q3⟩
     ·exact .inl hb5
     ·exact .inr ⟨g5,o5,q1,trivial,q2,q3⟩)
  refine⟨l,ao,n,c,e4,hl.symm,hmc,hlen,fun m hm=>?_,.inr ⟨g,off,h1,h2,fun i m hm=>(hk i m hm).2⟩⟩;obtain⟨i,hi⟩:=List.mem_iff_getElem?.1 hm;exact (hk i m hi).1
theorem Zvi {r:Reach} {b0:Nat} {v:Value} {d:DataW H} {p:List MemPlace} (hv:Value.okWide Tryz.prog W r b0 26 v) (h:DataW.Trod enc Tryz.prog W 0 (fun _=>true) true 26 v d p) :
  ∃ (c:Crw) (cs:List Value),v = .agg cs.toArray∧Zge W c cs∧LenC c∧(∀ p∈c.qs,ByL p)∧(∀ m∈c.ms,∀ b∈m.b,NmL b.n):=by
 obtain⟨cs,rfl,hsz⟩:=okWide_struct Tryz.underlying26 hv;obtain⟨fuel,hf⟩:=h;have hcs:(Value.agg cs).cells=cs:=rfl;rw[hcs] at hf;obtain⟨xs,n2,hn,-,hl,hxl,hf⟩:=DataW.trod_struct Tryz.underlying26 hf
 have hl3:cs.toList.length=3:=by rw[hl];kernel_rfl
 obtain⟨l0⟩:=cs
 match l0,hl3 with
 | [c0,c1,c2],_ =>
  match xs,hxl with
  | [y0,y1,y2],_ =>
   have f0:DataW.trod enc Tryz.prog W 0 (fun _=>true) true n2 22 (([c0,c1,c2]:List Value).drop 0 |>.take (Tryz.prog.cellsOf 22))=some y0:=hf 0 _ rfl;have f1:DataW.trod enc Tryz.prog W 0 (fun _=>true) true n2 23 (([c0,c1,c2]:List Value).drop 1 |>.take (Tryz.prog.cellsOf 23))=some y1:=hf 1 _ rfl;have f2:DataW.trod enc Tryz.prog W 0 (fun _=>true) true n2 24 (([c0,c1,c2]:List Value).drop 2 |>.take (Tryz.prog.cellsOf 24))=some y2:=hf 2 _ rfl;rw[cLP] at f0;rw[cLM] at f1;rw[cLS] at f2;obtain⟨ql,qo,qn,qc,e0,hq1,hq2,hq3,hq4,hq5,hq6⟩:=Zs1 (show DataW.trod enc Tryz.prog W 0 (fun _=>true) true n2 22 [c0]=some y0 from f0);obtain⟨ml,mo,mn,mc,e1,hm1,hm2,hm3,hm4,hm5⟩:=Zs4 (show DataW.trod enc Tryz.prog W 0 (fun _=>true) true n2 23 [c1]=some y1 from f1);obtain⟨ul,uo,un,uc,e2,hu1,hu2,hu3,-,hu5⟩:=Zs3 (show DataW.trod enc Tryz.prog W 0 (fun _=>true) true n2 24 [c2]=some y2 from f2);subst e0 e1 e2 hq1 hm1 hu1;exact⟨⟨ql,ml,ul⟩,_,rfl,⟨qo,qc,mo,mc,uo,uc,rfl,hq4,hm5,hu5,hu2⟩,⟨hq6,fun m hm=>(hm4 m hm).2,hq3,hm3,hu3⟩,hq5,fun m hm=>(hm4 m hm).1⟩
end
theorem Zxf {c:Crw} (hf:Zya c=true) (hL:LenC c) (hb:∀ p∈c.qs,ByL p) (hm:∀ m∈c.ms,∀ b∈m.b,NmL b.n):CrwOk c∧c.us.length≤999∧c.ms.length≤65∧c.qs.length≤129:=by
 unfold Zya at hf;simp only[Bool.and_eq_true,List.all_eq_true] at hf;obtain⟨⟨h1,h2⟩,h3⟩:=hf;unfold Zd1 at h1;simp only[Bool.and_eq_true,Bool.or_eq_true,decide_eq_true_eq] at h1;refine⟨⟨fun p hp=>⟨hb p hp,?_⟩,fun m hmm=>⟨hm m hmm,?_,?_⟩,by omega,by omega,by omega⟩,by omega,by omega,by omega⟩
 ·have:=Zwr (h2 p hp);omega
 ·have:=h3 m hmm
  unfold Zsz at this;simp only[Bool.and_eq_true,decide_eq_true_eq] at this;omega
 ·have:=h3 m hmm
  unfold Zsz at this;simp only[Bool.and_eq_true,decide_eq_true_eq] at this;omega
end
section
open Go.RowKit Go.Sort Go.Maps
theorem Zvj (c:Crw) {i k:Nat} {p:Prd} {m:Mem} (hp:c.qs[i]?=some p) (hm:c.ms[k]?=some m):((Zak c).getD i []).getD k false=hmB p m:=by
 unfold Zak;rw[List.getD_eq_getElem?_getD,List.getD_eq_getElem?_getD,List.getElem?_map,hp,Option.map_some,Option.getD_some,List.getElem?_map,hm];rfl
end
section
open Go.RowKit Go.Sort Go.Maps
def Zs5 (s j:Nat):Bool:=s/2^j%2==1
def Zfp (f:Nat→Int):Nat→Int
 | 0=>0
 | n+1=>Zfp f n+f n
theorem Zol (f g:Nat→Int):∀ n,Zfp (fun s=>f s+g s) n=Zfp f n+Zfp g n
 | 0=>rfl
 | n+1=>by
  show Zfp (fun s=>f s+g s) n+(f n+g n)=(Zfp f n+f n)+(Zfp g n+g n);rw[Zol f g n];omega
theorem Zjn {f g:Nat→Int}:∀ n,(∀ s,s<n→f s=g s)→Zfp f n=Zfp g n
 | 0,_=>rfl
 | n+1,h=>by
  show Zfp f n+f n=Zfp g n+g n;rw[Zjn n (fun s hs=>h s (by omega)),h n (by omega)]
theorem Zl8 (f:Nat→Int):∀ n,(∀ s,f s=0)→Zfp f n=0
 | 0,_=>rfl
 | n+1,h=>by
  show Zfp f n+f n=0;rw[Zl8 f n h,h n];rfl
def nbU (L s:Nat):Nat:=((List.range L).filter (Zs5 s)).length
def sgU (L s:Nat):Int:=if s=0 then 0 else if nbU L s%2=1 then 1 else -1
def Zl9 (v:List Bool) (s:Nat):Bool:=(List.range v.length).all (fun j=>!Zs5 s j||v.getD j false)
theorem Zs6 (v:List Bool) (h:v.length≤5):Zfp (fun s=>sgU v.length s*(if Zl9 v s=true then 1 else 0)) (2^v.length)=if v.any id=true then 1 else 0:=by
 match v,h with
 | [],_=>rfl
 | [a],_=>cases a<;>rfl
 | [a,b],_=>cases a<;>cases b<;>rfl
 | [a,b,c],_=>cases a<;>cases b<;>cases c<;>rfl
 | [a,b,c,d],_=>cases a<;>cases b<;>cases c<;>cases d<;>rfl
 | [a,b,c,d,e],_=>cases a<;>cases b<;>cases c<;>cases d<;>cases e<;>rfl
 | a::b::c::d::e::f::r,h=>exact absurd h (by simp only[List.length_cons];omega)
theorem Zy5 (g:Nat→Bool) (sg:Nat→Int) (A:Nat→Nat→Bool) (N:Nat):∀ (K:List Nat),(∀ k∈K,Zfp (fun s=>sg s*(if A s k=true then 1 else 0)) N=if g k=true then 1 else 0)→Zfp (fun s=>sg s*((K.countP (A s):Nat):Int)) N=((K.countP g:Nat):Int)
 | [],_=>Zl8 _ N (fun s=>by simp)
 | k::K,h=>by
  have e:(fun s=>sg s*(((k::K).countP (A s):Nat):Int))=(fun s=>sg s*((K.countP (A s):Nat):Int)+sg s*(if A s k=true then 1 else 0)):=by
   funext s
   rw[List.countP_cons,Int.natCast_add,Int.mul_add];split<;>rfl
  rw[e,Zol,Zy5 g sg A N K (fun k' hk=>h k' (List.mem_cons_of_mem _ hk)),h k List.mem_cons_self,List.countP_cons,Int.natCast_add];split<;>rfl
def Zfq (l:List Int) (s i:Nat):List Int:=((List.range i).filter (Zs5 s)).map (fun j=>l.getD j 0)
theorem Zs7 (l:List Int) (s i:Nat):Zfq l s (i+1)=if Zs5 s i=true then Zfq l s i++[l.getD i 0] else Zfq l s i:=by
 unfold Zfq;rw[List.range_succ,List.filter_append];by_cases h:Zs5 s i=true
 ·rw[if_pos h];simp[h]
 ·rw[if_neg h];simp[h]
theorem Zvk (l:List Int) (s i:Nat):(Zfq l s i).length=nbU i s:=by unfold Zfq nbU;rw[List.length_map]
theorem Zyb (L s:Nat):nbU L s≤L:=by unfold nbU;exact Za5 _ _
theorem Zvl {l:List Int} {s i:Nat} (hi:i≤l.length) {q:Int} (h:q∈Zfq l s i):q∈l:=by
 unfold Zfq at h;obtain⟨j,hj,rfl⟩:=List.mem_map.1 h;have hj:=List.mem_range.1 (List.mem_filter.1 hj).1;rw[List.getD_eq_getElem?_getD,List.getElem?_eq_getElem (by omega)];exact List.getElem_mem _
theorem Zvm {c:Crw} {l l':List Int} (h:Zcl c l=true) (hs:∀ q∈l',q∈l):Zcl c l'=true:=by
 unfold Zcl at h ⊢;rw[Bool.and_eq_true] at h ⊢;refine⟨h.1,?_⟩;have h2:=h.2;rw[Bool.not_eq_true',List.any_eq_false] at h2 ⊢
 exact fun q hq=>h2 q (hs q hq)
theorem Zvn {c:Crw} (l:List Int) (s k:Nat):Zkg c (Zfq l s l.length) k=Zl9 (l.map (fun q=>Zfg c q k)) s:=by
 unfold Zkg Zl9 Zfq;rw[Bool.eq_iff_iff,Bool.not_eq_true',List.any_eq_false,List.all_eq_true,List.length_map];constructor
 ·intro h j hj
  have hj2:=List.mem_range.1 hj;by_cases hb:Zs5 s j=true
  ·have:=h (l.getD j 0) (List.mem_map.2 ⟨j,List.mem_filter.2 ⟨hj,hb⟩,rfl⟩)
   rw[hb,Bool.not_true,Bool.false_or];rw[List.getD_eq_getElem?_getD,List.getElem?_map];rw[List.getD_eq_getElem?_getD,List.getElem?_eq_getElem hj2] at this;rw[List.getElem?_eq_getElem hj2];simpa using this
  ·have hb:Zs5 s j=false:=by simpa using hb
   rw[hb];rfl
 ·intro h q hq
  obtain⟨j,hj,rfl⟩:=List.mem_map.1 hq;obtain⟨hj1,hj2⟩:=List.mem_filter.1 hj;have:=h j hj1;have hj3:=List.mem_range.1 hj1;rw[hj2,Bool.not_true,Bool.false_or,List.getD_eq_getElem?_getD,List.getElem?_map,List.getElem?_eq_getElem hj3] at this;rw[List.getD_eq_getElem?_getD,List.getElem?_eq_getElem hj3];simpa using this
def Zeg (c:Crw) (l:List Int) (s:Nat):Int:=sgU l.length s*(((Zdb c (Zfq l s l.length)).length:Nat):Int)
theorem Zs8 {c:Crw} {l:List Int} (h:Zcl c l=true) (hl:l.length≤5):Zfp (Zeg c l) (2^l.length)=((Zef c l:Nat):Int):=by
 have e:Zfp (Zeg c l) (2^l.length)=Zfp (fun s=>sgU l.length s*(((List.range c.ms.length).countP (fun k=>Zl9 (l.map (fun q=>Zfg c q k)) s):Nat):Int)) (2^l.length):=Zjn _ (fun s hs=>by
  unfold Zeg Zdb;rw[if_pos (Zvm h (fun q hq=>Zvl (Nat.le_refl _) hq)),← List.countP_eq_length_filter]
  congr 3
  funext k
  exact Zvn l s k)
 rw[e];unfold Zef;rw[if_pos h];refine Zy5 (Zxd c l) (sgU l.length) (fun s k=>Zl9 (l.map (fun q=>Zfg c q k)) s) _ _ (fun k _=>?_);have:=Zs6 (l.map (fun q=>Zfg c q k)) (by rw[List.length_map];exact hl);rw[List.length_map] at this;rw[this];unfold Zxd;rw[List.any_map];rfl
theorem Zom (c:Crw) (l:List Int):(Zdb c l).length≤c.ms.length:=by
 unfold Zdb;split
 ·exact Za5 _ _
 ·exact Nat.zero_le _
theorem Zjo {f:Nat→Int} {b:Int} (h:∀ s,-b≤f s∧f s≤b):∀ n:Nat,-(b*n)≤Zfp f n∧Zfp f n≤b*n
 | 0=>by show -(b*((0:Nat):Int))≤0∧0≤b*((0:Nat):Int);simp
 | n+1=>by
  obtain⟨h1,h2⟩:=Zjo h n;obtain⟨h3,h4⟩:=h n
  have e:b*((n+1:Nat):Int)=b*(n:Int)+b:=by rw[Int.natCast_add,Int.mul_add];simp
  rw[e];show -(b*(n:Int)+b)≤Zfp f n+f n∧Zfp f n+f n≤b*(n:Int)+b;omega
structure UniP (c:Crw) (l:List Int) (L mn:Nat) (S:Nat→Int) (n:Nat):Prop where
 s1:S 1=0
 odd:∀ s,1≤s→nbU L s%2=1→S (s+1)=S s+(((Zdb c (Zfq l s L)).length:Nat):Int)
 even:∀ s,1≤s→nbU L s%2≠1→S (s+1)=S s-(((Zdb c (Zfq l s L)).length:Nat):Int)
 bnd:∀ s,s≤32→-2080≤S s∧S s≤2080
 cl:∀ l',(Zdb c l').length≤65
 all:S (2^L)=((n:Nat):Int)
 com:Zdb c l=(List.range mn).filter (Zkg c l)
theorem Zxg {c:Crw} {l:List Int} (h:Zcl c l=true) (hl:l.length≤5) (hm:c.ms.length≤65):UniP c l l.length c.ms.length (Zfp (Zeg c l)) (Zef c l):=by
 have hb:∀ s,-65≤Zeg c l s∧Zeg c l s≤65:=fun s=>by
  unfold Zeg sgU;have:=Zom c (Zfq l s l.length);split
  ·rw[Int.zero_mul];omega
  ·split
   ·rw[Int.one_mul];omega
   ·rw[show (-1:Int)*(((Zdb c (Zfq l s l.length)).length:Nat):Int) = -(((Zdb c (Zfq l s l.length)).length:Nat):Int) by rw[Int.neg_mul,Int.one_mul]];omega
 refine⟨?_,fun s h1 h2=>?_,fun s h1 h2=>?_,fun s hs=>?_,fun l'=>Nat.le_trans (Zom c l') hm,Zs8 h hl,?_⟩
 ·show (0:Int)+Zeg c l 0=0
  unfold Zeg sgU;rw[if_pos rfl,Int.zero_mul];rfl
 ·show Zfp (Zeg c l) s+Zeg c l s=_
  unfold Zeg sgU;rw[if_neg (by omega),if_pos h2,Int.one_mul]
 ·show Zfp (Zeg c l) s+Zeg c l s=_
  unfold Zeg sgU;rw[if_neg (by omega),if_neg h2,Int.neg_mul,Int.one_mul];rfl
 ·obtain⟨h1,h2⟩:=Zjo (b:=65) hb s
  omega
 ·unfold Zdb
  rw[if_pos h]
theorem Zvo (s i:Nat):nbU (i+1) s=nbU i s+(if Zs5 s i=true then 1 else 0):=by
 unfold nbU;rw[List.range_succ,List.filter_append,List.length_append];by_cases h:Zs5 s i=true<;>simp[h]
theorem Zs9 {p:Prd} {m:Mem}:(Zed p m.b).1=hmB p m:=by
 unfold hmB Zed;split
 ·rfl
 ·split
  ·rfl
  ·simp
theorem Zvp (c:Crw) (l:List Int) (k i:Nat):(List.range (i+1)).all (fun j=>Zfg c (l.getD j 0) k)=((List.range i).all (fun j=>Zfg c (l.getD j 0) k)&&Zfg c (l.getD i 0) k):=by
 rw[List.range_succ,List.all_append];simp
theorem Zxh (c:Crw) (l:List Int) (k:Nat):Zkg c l k=(List.range l.length).all (fun j=>Zfg c (l.getD j 0) k):=by
 unfold Zkg;rw[Bool.eq_iff_iff,Bool.not_eq_true',List.any_eq_false,List.all_eq_true];constructor
 ·intro h j hj
  have hj:=List.mem_range.1 hj;have:=h (l.getD j 0) (by rw[List.getD_eq_getElem?_getD,List.getElem?_eq_getElem hj];exact List.getElem_mem _);simpa using this
 ·intro h q hq
  obtain⟨j,hj,rfl⟩:=List.mem_iff_getElem.1 hq;have:=h j (List.mem_range.2 hj);rw[List.getD_eq_getElem?_getD,List.getElem?_eq_getElem hj] at this;simpa using this
theorem Zyc {c:Crw} {q:Int} (hq:0≤q) {p:Prd} {m:Mem} {k:Nat} (hp:c.qs[q.toNat]?=some p) (hm:c.ms[k]?=some m):Zfg c q k=(Zed p m.b).1:=by
 unfold Zfg;rw[Zvj c hp hm,Zs9]
theorem Zvq {c:Crw} (hv:Zao c=true) (l:List Int):Zcl c l=true↔∀ j,j<l.length→0≤l.getD j 0∧l.getD j 0<(c.qs.length:Int):=by
 unfold Zcl;rw[hv,Bool.true_and,Bool.not_eq_true',List.any_eq_false];constructor
 ·intro h j hj
  have:=h (l.getD j 0) (by rw[List.getD_eq_getElem?_getD,List.getElem?_eq_getElem hj];exact List.getElem_mem _)
  have h2:Zcr (l.getD j 0) c.qs.length=true:=by simpa using this
  obtain⟨g1,g2⟩:=Zoj.1 h2;omega
 ·intro h q hq
  obtain⟨j,hj,rfl⟩:=List.mem_iff_getElem.1 hq;have h2:=h j hj;rw[List.getD_eq_getElem?_getD,List.getElem?_eq_getElem hj] at h2;have h2:0≤l[j]∧l[j]<(c.qs.length:Int):=h2;have:Zcr l[j] c.qs.length=true:=Zoj.2 ⟨h2.1,by omega⟩;simp[this]
end
section
open Go.RowKit Go.Sort Go.Maps
theorem Zxi {w:World} {c:Crw} {qo mo uo:Option Addr} {qn mn un qc mc uc:Nat} (h:Zge w c [.slice qo qn qc,.slice mo mn mc,.slice uo un uc]):Ze8 w (fun _=>True) c.qs qo∧Zgm w c.ms mo:=by
 obtain⟨qo',qc',mo',mc',uo',uc',he,h1,h2,h3,h4⟩:=h;simp only[List.cons.injEq,Value.slice.injEq,and_true] at he;obtain⟨⟨rfl,rfl,rfl⟩,⟨rfl,rfl,rfl⟩,rfl,rfl,rfl⟩:=he;exact⟨h1,h2⟩
end
end Go.Proofs.YtbcgocpihobjnaaGreatDoor
