import Derived.Test.YtbcgocpihobjnaaGreatDoorCX43
import Derived.Test.YtbcgocpihobjnaaGreatDoorCX39
import Derived.Test.YtbcgocpihobjnaaGreatDoorCX37
import Derived.Test.YtbcgocpihobjnaaGreatDoorCX33
import Derived.Test.YtbcgocpihobjnaaGreatDoorCX41
import Derived.Test.YtbcgocpihobjnaaGreatDoorCX23
import Derived.Test.YtbcgocpihobjnaaGreatDoorCX11
import Derived.Test.YtbcgocpihobjnaaGreatDoorCX40
import Derived.Test.YtbcgocpihobjnaaGreatDoorCX34
import Derived.Test.YtbcgocpihobjnaaGreatDoorCX26
import Derived.Test.YtbcgocpihobjnaaGreatDoorCX25
import Derived.Test.YtbcgocpihobjnaaGreatDoorCX22
set_option linter.all false
set_option maxHeartbeats 32000000
set_option maxRecDepth 100000
namespace Go.Proofs.YtbcgocpihobjnaaGreatDoor
section
open Go Go.ChangeShapes Go.WideShapes Go.ChangeAt Go.WideMaps Go.WideElems Go.RowKit
theorem Z1s:Tryz.prog.cellsOf 44=3:=by kernel_rfl
theorem Z06:Tryz.prog.cellsOf 39=4:=by kernel_rfl
theorem Z07:Tryz.prog.cellsOf 79=2:=by kernel_rfl
theorem cLP:Tryz.prog.cellsOf 22=1:=by kernel_rfl
theorem cLB:Tryz.prog.cellsOf 42=1:=by kernel_rfl
theorem cLI:Tryz.prog.cellsOf 33=1:=by kernel_rfl
theorem cLM:Tryz.prog.cellsOf 23=1:=by kernel_rfl
theorem cLS:Tryz.prog.cellsOf 24=1:=by kernel_rfl
instance:Inhabited Use:=⟨⟨0,0,0,0⟩⟩
instance:Inhabited Wsh:=⟨⟨0,0⟩⟩
instance:Inhabited Mem:=⟨⟨[],[],0⟩⟩
section
variable {H:Type} {enc:TypeId×Value→H} {W:World}
theorem Zuo {fuel:Nat} {v:Value} {y:DataW H×List MemPlace} (h:DataW.trod enc Tryz.prog W 0 (fun _=>true) true fuel 33 [v]=some y) :
  ∃ (l:List Int) (ao:Option Addr) (n c:Nat),v = .slice ao n c∧n=l.length∧n≤c∧n≤9223372036854775807∧Zak Zbd W ao l:=by
 obtain⟨ao,n,c,e4,hmc,hcm,hel⟩:=Zbu Tryz.underlying33 cI (by decide) h;have hlen:n≤9223372036854775807:=Nat.le_trans hmc (Nat.le_trans hcm (by decide));rcases hel with h0 | ⟨g,off,n',h1,h2,h3,h4⟩
 ·exact⟨[],ao,n,c,e4,h0,hmc,hlen,.inl rfl⟩
 ·obtain⟨l,hl,hk⟩:=Zct (α:=Int) n (fun i x=>W.cell? ⟨g,off+i,none⟩=some (.int .i64 x)) (fun i hi=>by
   obtain⟨cs,y,h5,h6,h7⟩:=h4 i hi
   match cs,h5 with
   | [c0],_ =>
    obtain⟨k,e0,-,-⟩:=DataW.trod_int Tryz.underlying3 h7;simp only[List.cons.injEq,and_true] at e0;subst e0;have:=h6 0 _ rfl;rw[Nat.mul_one,Nat.add_zero] at this
    exact⟨k,this⟩)
  refine⟨l,ao,n,c,e4,hl.symm,hmc,hlen,.inr ⟨g,off,h1,h2,fun j u hj=>?_⟩⟩;rw[← Zc5,ivs,List.getElem?_map] at hj;obtain⟨x,hx,rfl⟩:=Option.map_eq_some_iff.1 hj;exact hk j x hx
theorem Zup {fuel:Nat} {v:Value} {y:DataW H×List MemPlace} (h:DataW.trod enc Tryz.prog W 0 (fun _=>true) true fuel 22 [v]=some y) :
  ∃ (l:List Prd) (ao:Option Addr) (n c:Nat),v = .slice ao n c∧n=l.length∧n≤c∧n≤9223372036854775807∧Ze3 W (fun _=>True) l ao∧(∀ p∈l,ByL p)∧(∀ p∈l,Zst p):=by
 obtain⟨ao,n,c,e4,hmc,hcm,hel⟩:=Zbu Tryz.underlying22 cP (by decide) h;have hlen:n≤9223372036854775807:=Nat.le_trans hmc (Nat.le_trans hcm (by decide));rcases hel with h0 | ⟨g,off,n',h1,h2,h3,h4⟩
 ·exact⟨[],ao,n,c,e4,h0,hmc,hlen,.inl rfl,by simp,by simp⟩
 ·obtain⟨ks,hkl,hk⟩:=Zct (α:=Prd) n (fun i p=>(∃ vs,Zal W (fun g=>g<W.heap.size) p vs∧Zas W g (off+i*5) vs)∧ByL p∧Zst p) (fun i hi=>by
   obtain⟨cs,y,h5,h6,h7⟩:=h4 i hi;obtain⟨p,hp1,hp2,hp3⟩:=Zty n' cs y h7
   exact⟨p,⟨cs,hp1,h6⟩,hp2,hp3⟩)
  have hpr:Ze3 W (fun g=>g<W.heap.size) ks ao:=.inr ⟨g,off,h1,h2,h2,Zk8 ks g off (fun i p hp=>(hk i p hp).1)⟩;refine⟨ks,ao,n,c,e4,hkl.symm,hmc,hlen,hpr.mono (fun _ _ _=>trivial),fun q hq=>?_,fun q hq=>?_⟩
  ·obtain⟨i,hi⟩:=List.mem_iff_getElem?.1 hq
   exact (hk i q hi).2.1
  ·obtain⟨i,hi⟩:=List.mem_iff_getElem?.1 hq
   exact (hk i q hi).2.2
theorem Zuq {fuel:Nat} {v:Value} {y:DataW H×List MemPlace} (h:DataW.trod enc Tryz.prog W 0 (fun _=>true) true fuel 42 [v]=some y) :
  ∃ (l:List Bnd) (ao:Option Addr) (n c:Nat),v = .slice ao n c∧n=l.length∧n≤c∧n≤9223372036854775807∧(∀ b∈l,NmL b.n)∧Zak Zx2 W ao l:=by
 obtain⟨ao,n,c,e4,hmc,hcm,hel⟩:=Zbu Tryz.underlying42 cB (by decide) h;have hlen:n≤9223372036854775807:=Nat.le_trans hmc (Nat.le_trans hcm (by decide));rcases hel with h0 | ⟨g,off,n',h1,h2,h3,h4⟩
 ·exact⟨[],ao,n,c,e4,h0,hmc,hlen,by simp,.inl rfl⟩
 ·obtain⟨l,hl,hk⟩:=Zct (α:=Bnd) n (fun i b=>(NmL b.n)∧Zas W g (off+i*2) (Zx2 b)) (fun i hi=>by
   obtain⟨cs,y,h5,h6,h7⟩:=h4 i hi;obtain⟨xs,n2,hn,-,hl,hxl,hf⟩:=DataW.trod_struct Tryz.underlying164 h7
   match cs,h5 with
   | [c0,c1],_ =>
    match xs,hxl with
    | [y0,y1],_ =>
     have f0:DataW.trod enc Tryz.prog W 0 (fun _=>true) true n2 9 (([c0,c1]:List Value).drop 0 |>.take (Tryz.prog.cellsOf 9))=some y0:=hf 0 _ rfl;have f1:DataW.trod enc Tryz.prog W 0 (fun _=>true) true n2 3 (([c0,c1]:List Value).drop 1 |>.take (Tryz.prog.cellsOf 3))=some y1:=hf 1 _ rfl;rw[cS] at f0;rw[cI] at f1;obtain⟨s0,e0,-,z0⟩:=DataW.trod_string Tryz.underlying9 (show DataW.trod enc Tryz.prog W 0 (fun _=>true) true n2 9 [c0]=some y0 from f0);obtain⟨k1,e1,-,-⟩:=DataW.trod_int Tryz.underlying3 (show DataW.trod enc Tryz.prog W 0 (fun _=>true) true n2 3 [c1]=some y1 from f1);simp only[List.cons.injEq,and_true] at e0 e1;subst e0 e1;obtain⟨l0,rfl,b0,g0⟩:=Zeg s0
     exact⟨⟨l0,k1⟩,⟨b0,by rw[g0];exact Nat.le_trans z0 (by decide)⟩,h6⟩)
  refine⟨l,ao,n,c,e4,hl.symm,hmc,hlen,fun b hb=>?_,.inr ⟨g,off,h1,h2,fun j u hj=>?_⟩⟩
  ·obtain⟨i,hi⟩:=List.mem_iff_getElem?.1 hb
   exact (hk i b hi).1
  ·have hjl:=(List.getElem?_eq_some_iff.1 hj).1
   rw[Zbo Zx2 2 Zk6] at hjl
   have hi:j/2<l.length:=by omega
   have hb:=List.getElem?_eq_getElem hi
   have hjj:j=j/2*2+j%2:=by omega
   have h9:=(hk (j/2) _ hb).2 (j%2) u (by
    rw[← Zcj Zx2 2 Zk6 l (j/2) (j%2) _ hb (Nat.mod_lt _ (by decide)),← hjj];exact hj)
   rwa [Nat.add_assoc,← hjj] at h9
theorem Zur {fuel:Nat} {v:Value} {y:DataW H×List MemPlace} (h:DataW.trod enc Tryz.prog W 0 (fun _=>true) true fuel 24 [v]=some y) :
  ∃ (l:List Use) (ao:Option Addr) (n c:Nat),v = .slice ao n c∧n=l.length∧n≤c∧n≤9223372036854775807∧(∀ b∈l,True)∧Zak Zbx W ao l:=by
 obtain⟨ao,n,c,e4,hmc,hcm,hel⟩:=Zbu Tryz.underlying24 Z06 (by decide) h;have hlen:n≤9223372036854775807:=Nat.le_trans hmc (Nat.le_trans hcm (by decide));rcases hel with h0 | ⟨g,off,n',h1,h2,h3,h4⟩
 ·exact⟨[],ao,n,c,e4,h0,hmc,hlen,by simp,.inl rfl⟩
 ·obtain⟨l,hl,hk⟩:=Zct (α:=Use) n (fun i b=>(True)∧Zas W g (off+i*4) (Zbx b)) (fun i hi=>by
   obtain⟨cs,y,h5,h6,h7⟩:=h4 i hi;obtain⟨xs,n2,hn,-,hl,hxl,hf⟩:=DataW.trod_struct Tryz.underlying39 h7
   match cs,h5 with
   | [c0,c1,c2,c3],_ =>
    match xs,hxl with
    | [y0,y1,y2,y3],_ =>
     have f0:DataW.trod enc Tryz.prog W 0 (fun _=>true) true n2 3 (([c0,c1,c2,c3]:List Value).drop 0 |>.take (Tryz.prog.cellsOf 3))=some y0:=hf 0 _ rfl;have f1:DataW.trod enc Tryz.prog W 0 (fun _=>true) true n2 3 (([c0,c1,c2,c3]:List Value).drop 1 |>.take (Tryz.prog.cellsOf 3))=some y1:=hf 1 _ rfl;have f2:DataW.trod enc Tryz.prog W 0 (fun _=>true) true n2 3 (([c0,c1,c2,c3]:List Value).drop 2 |>.take (Tryz.prog.cellsOf 3))=some y2:=hf 2 _ rfl;have f3:DataW.trod enc Tryz.prog W 0 (fun _=>true) true n2 3 (([c0,c1,c2,c3]:List Value).drop 3 |>.take (Tryz.prog.cellsOf 3))=some y3:=hf 3 _ rfl;rw[cI] at f0;rw[cI] at f1;rw[cI] at f2;rw[cI] at f3;obtain⟨k0,e0,-,-⟩:=DataW.trod_int Tryz.underlying3 (show DataW.trod enc Tryz.prog W 0 (fun _=>true) true n2 3 [c0]=some y0 from f0);obtain⟨k1,e1,-,-⟩:=DataW.trod_int Tryz.underlying3 (show DataW.trod enc Tryz.prog W 0 (fun _=>true) true n2 3 [c1]=some y1 from f1);obtain⟨k2,e2,-,-⟩:=DataW.trod_int Tryz.underlying3 (show DataW.trod enc Tryz.prog W 0 (fun _=>true) true n2 3 [c2]=some y2 from f2);obtain⟨k3,e3,-,-⟩:=DataW.trod_int Tryz.underlying3 (show DataW.trod enc Tryz.prog W 0 (fun _=>true) true n2 3 [c3]=some y3 from f3);simp only[List.cons.injEq,and_true] at e0 e1 e2 e3;subst e0 e1 e2 e3
     exact⟨⟨k0,k1,k2,k3⟩,trivial,h6⟩)
  refine⟨l,ao,n,c,e4,hl.symm,hmc,hlen,fun b hb=>?_,.inr ⟨g,off,h1,h2,fun j u hj=>?_⟩⟩
  ·obtain⟨i,hi⟩:=List.mem_iff_getElem?.1 hb
   exact (hk i b hi).1
  ·have hjl:=(List.getElem?_eq_some_iff.1 hj).1
   rw[Zbo Zbx 4 Za7] at hjl
   have hi:j/4<l.length:=by omega
   have hb:=List.getElem?_eq_getElem hi
   have hjj:j=j/4*4+j%4:=by omega
   have h9:=(hk (j/4) _ hb).2 (j%4) u (by
    rw[← Zcj Zbx 4 Za7 l (j/4) (j%4) _ hb (Nat.mod_lt _ (by decide)),← hjj];exact hj)
   rwa [Nat.add_assoc,← hjj] at h9
theorem Zus {fuel:Nat} {v:Value} {y:DataW H×List MemPlace} (h:DataW.trod enc Tryz.prog W 0 (fun _=>true) true fuel 56 [v]=some y) :
  ∃ (l:List Wsh) (ao:Option Addr) (n c:Nat),v = .slice ao n c∧n=l.length∧n≤c∧n≤9223372036854775807∧(∀ b∈l,True)∧Zak Zpy W ao l:=by
 obtain⟨ao,n,c,e4,hmc,hcm,hel⟩:=Zbu Tryz.underlying56 Z07 (by decide) h;have hlen:n≤9223372036854775807:=Nat.le_trans hmc (Nat.le_trans hcm (by decide));rcases hel with h0 | ⟨g,off,n',h1,h2,h3,h4⟩
 ·exact⟨[],ao,n,c,e4,h0,hmc,hlen,by simp,.inl rfl⟩
 ·obtain⟨l,hl,hk⟩:=Zct (α:=Wsh) n (fun i b=>(True)∧Zas W g (off+i*2) (Zpy b)) (fun i hi=>by
   obtain⟨cs,y,h5,h6,h7⟩:=h4 i hi;obtain⟨xs,n2,hn,-,hl,hxl,hf⟩:=DataW.trod_struct Tryz.underlying79 h7
   match cs,h5 with
   | [c0,c1],_ =>
    match xs,hxl with
    | [y0,y1],_ =>
     have f0:DataW.trod enc Tryz.prog W 0 (fun _=>true) true n2 3 (([c0,c1]:List Value).drop 0 |>.take (Tryz.prog.cellsOf 3))=some y0:=hf 0 _ rfl;have f1:DataW.trod enc Tryz.prog W 0 (fun _=>true) true n2 3 (([c0,c1]:List Value).drop 1 |>.take (Tryz.prog.cellsOf 3))=some y1:=hf 1 _ rfl;rw[cI] at f0;rw[cI] at f1;obtain⟨k0,e0,-,-⟩:=DataW.trod_int Tryz.underlying3 (show DataW.trod enc Tryz.prog W 0 (fun _=>true) true n2 3 [c0]=some y0 from f0);obtain⟨k1,e1,-,-⟩:=DataW.trod_int Tryz.underlying3 (show DataW.trod enc Tryz.prog W 0 (fun _=>true) true n2 3 [c1]=some y1 from f1);simp only[List.cons.injEq,and_true] at e0 e1;subst e0 e1
     exact⟨⟨k0,k1⟩,trivial,h6⟩)
  refine⟨l,ao,n,c,e4,hl.symm,hmc,hlen,fun b hb=>?_,.inr ⟨g,off,h1,h2,fun j u hj=>?_⟩⟩
  ·obtain⟨i,hi⟩:=List.mem_iff_getElem?.1 hb
   exact (hk i b hi).1
  ·have hjl:=(List.getElem?_eq_some_iff.1 hj).1
   rw[Zbo Zpy 2 Zlj] at hjl
   have hi:j/2<l.length:=by omega
   have hb:=List.getElem?_eq_getElem hi
   have hjj:j=j/2*2+j%2:=by omega
   have h9:=(hk (j/2) _ hb).2 (j%2) u (by
    rw[← Zcj Zpy 2 Zlj l (j/2) (j%2) _ hb (Nat.mod_lt _ (by decide)),← hjj];exact hj)
   rwa [Nat.add_assoc,← hjj] at h9
theorem Zut {fuel:Nat} {v:Value} {y:DataW H×List MemPlace} (h:DataW.trod enc Tryz.prog W 0 (fun _=>true) true fuel 23 [v]=some y) :
  ∃ (l:List Mem) (ao:Option Addr) (n c:Nat),v = .slice ao n c∧n=l.length∧n≤c∧n≤9223372036854775807∧(∀ m∈l,(∀ b∈m.b,NmL b.n)∧m.b.length≤9223372036854775807∧m.t.length≤9223372036854775807)∧Zi3 W l ao:=by
 obtain⟨ao,n,c,e4,hmc,hcm,hel⟩:=Zbu Tryz.underlying23 Z1s (by decide) h;have hlen:n≤9223372036854775807:=Nat.le_trans hmc (Nat.le_trans hcm (by decide));rcases hel with h0 | ⟨g,off,n',h1,h2,h3,h4⟩
 ·exact⟨[],ao,n,c,e4,h0,hmc,hlen,by simp,.inl rfl⟩
 ·obtain⟨l,hl,hk⟩:=Zct (α:=Mem) n (fun i m=>((∀ b∈m.b,NmL b.n)∧m.b.length≤9223372036854775807∧m.t.length≤9223372036854775807)∧∃ cs,Zs4 W m cs∧Zas W g (off+i*3) cs) (fun i hi=>by
   obtain⟨cs,y,h5,h6,h7⟩:=h4 i hi;obtain⟨xs,n2,hn,-,hl,hxl,hf⟩:=DataW.trod_struct Tryz.underlying44 h7
   match cs,h5 with
   | [c0,c1,c2],_ =>
    match xs,hxl with
    | [y0,y1,y2],_ =>
     have f0:DataW.trod enc Tryz.prog W 0 (fun _=>true) true n2 42 (([c0,c1,c2]:List Value).drop 0 |>.take (Tryz.prog.cellsOf 42))=some y0:=hf 0 _ rfl;have f1:DataW.trod enc Tryz.prog W 0 (fun _=>true) true n2 33 (([c0,c1,c2]:List Value).drop 1 |>.take (Tryz.prog.cellsOf 33))=some y1:=hf 1 _ rfl;have f2:DataW.trod enc Tryz.prog W 0 (fun _=>true) true n2 3 (([c0,c1,c2]:List Value).drop 2 |>.take (Tryz.prog.cellsOf 3))=some y2:=hf 2 _ rfl;rw[cLB] at f0;rw[cLI] at f1;rw[cI] at f2;obtain⟨bl,bo,bn,bc,e0,hb1,hb2,hb3,hb4,hb5⟩:=Zuq (show DataW.trod enc Tryz.prog W 0 (fun _=>true) true n2 42 [c0]=some y0 from f0);obtain⟨tl,ta,tn,tc,e1,ht1,ht2,ht3,ht4⟩:=Zuo (show DataW.trod enc Tryz.prog W 0 (fun _=>true) true n2 33 [c1]=some y1 from f1);obtain⟨k,e2,-,-⟩:=DataW.trod_int Tryz.underlying3 (show DataW.trod enc Tryz.prog W 0 (fun _=>true) true n2 3 [c2]=some y2 from f2);simp only[List.cons.injEq,and_true] at e2;subst e0 e1 e2 hb1 ht1;refine⟨⟨bl,tl,k⟩,⟨hb4,hb3,ht3⟩,_,⟨bo,bc,ta,tc,rfl,?_,ht4⟩,h6⟩;rcases hb5 with hb5 | ⟨g5,o5,q1,q2,q3⟩
     ·exact .inl hb5
     ·exact .inr ⟨g5,o5,q1,trivial,q2,q3⟩)
  refine⟨l,ao,n,c,e4,hl.symm,hmc,hlen,fun m hm=>?_,.inr ⟨g,off,h1,h2,fun i m hm=>(hk i m hm).2⟩⟩;obtain⟨i,hi⟩:=List.mem_iff_getElem?.1 hm;exact (hk i m hi).1
theorem Zxo {r:Reach} {b0:Nat} {v:Value} {d:DataW H} {p:List MemPlace} (hv:Value.okWide Tryz.prog W r b0 26 v) (h:DataW.Trod enc Tryz.prog W 0 (fun _=>true) true 26 v d p) :
  ∃ (c:Crw) (cs:List Value),v = .agg cs.toArray∧Zgs W c cs∧LenC c∧(∀ p∈c.qs,ByL p)∧(∀ m∈c.ms,∀ b∈m.b,NmL b.n):=by
 obtain⟨cs,rfl,hsz⟩:=okWide_struct Tryz.underlying26 hv;obtain⟨fuel,hf⟩:=h;have hcs:(Value.agg cs).cells=cs:=rfl;rw[hcs] at hf;obtain⟨xs,n2,hn,-,hl,hxl,hf⟩:=DataW.trod_struct Tryz.underlying26 hf
 have hl3:cs.toList.length=3:=by rw[hl];kernel_rfl
 obtain⟨l0⟩:=cs
 match l0,hl3 with
 | [c0,c1,c2],_ =>
  match xs,hxl with
  | [y0,y1,y2],_ =>
   have f0:DataW.trod enc Tryz.prog W 0 (fun _=>true) true n2 22 (([c0,c1,c2]:List Value).drop 0 |>.take (Tryz.prog.cellsOf 22))=some y0:=hf 0 _ rfl;have f1:DataW.trod enc Tryz.prog W 0 (fun _=>true) true n2 23 (([c0,c1,c2]:List Value).drop 1 |>.take (Tryz.prog.cellsOf 23))=some y1:=hf 1 _ rfl;have f2:DataW.trod enc Tryz.prog W 0 (fun _=>true) true n2 24 (([c0,c1,c2]:List Value).drop 2 |>.take (Tryz.prog.cellsOf 24))=some y2:=hf 2 _ rfl;rw[cLP] at f0;rw[cLM] at f1;rw[cLS] at f2;obtain⟨ql,qo,qn,qc,e0,hq1,hq2,hq3,hq4,hq5,hq6⟩:=Zup (show DataW.trod enc Tryz.prog W 0 (fun _=>true) true n2 22 [c0]=some y0 from f0);obtain⟨ml,mo,mn,mc,e1,hm1,hm2,hm3,hm4,hm5⟩:=Zut (show DataW.trod enc Tryz.prog W 0 (fun _=>true) true n2 23 [c1]=some y1 from f1);obtain⟨ul,uo,un,uc,e2,hu1,hu2,hu3,-,hu5⟩:=Zur (show DataW.trod enc Tryz.prog W 0 (fun _=>true) true n2 24 [c2]=some y2 from f2);subst e0 e1 e2 hq1 hm1 hu1;exact⟨⟨ql,ml,ul⟩,_,rfl,⟨qo,qc,mo,mc,uo,uc,rfl,hq4,hm5,hu5,hu2⟩,⟨hq6,fun m hm=>(hm4 m hm).2,hq3,hm3,hu3⟩,hq5,fun m hm=>(hm4 m hm).1⟩
end
theorem Zzk {c:Crw} (hf:Z0h c=true) (hL:LenC c) (hb:∀ p∈c.qs,ByL p) (hm:∀ m∈c.ms,∀ b∈m.b,NmL b.n):CrwOk c∧c.us.length≤999∧c.ms.length≤65∧c.qs.length≤129:=by
 unfold Z0h at hf;simp only[Bool.and_eq_true,List.all_eq_true] at hf;obtain⟨⟨h1,h2⟩,h3⟩:=hf;unfold Zei at h1;simp only[Bool.and_eq_true,Bool.or_eq_true,decide_eq_true_eq] at h1;refine⟨⟨fun p hp=>⟨hb p hp,?_⟩,fun m hmm=>⟨hm m hmm,?_,?_⟩,by omega,by omega,by omega⟩,by omega,by omega,by omega⟩
 ·have:=Zyx (h2 p hp);omega
 ·have:=h3 m hmm
  unfold Zun at this;simp only[Bool.and_eq_true,decide_eq_true_eq] at this;omega
 ·have:=h3 m hmm
  unfold Zun at this;simp only[Bool.and_eq_true,decide_eq_true_eq] at this;omega
end
section
open Go.RowKit Go.Sort Go.Maps
theorem Zxp (w:World) (oo wo po:Option Addr) (nw oc nl wc no pc:Nat) (h1:nw≤9223372036854775807) (h2:nl≤9223372036854775807) (h3:no≤9223372036854775807) :
  Calls Tryz.prog 31 #[.slice oo nw oc,.slice wo nl wc,.slice po no pc] w fun e w'=>e = .returned (.bool (decide (nw≤8)&&(decide (nl≤5)&&decide (no≤34))))∧w=w':=by
 go_enter Tryz.func31,Tryz.ntmps31
 by_cases a:nw≤8
 ·have a':(nw:Int)≤8:=by omega
  by_cases b:nl≤5
  ·have b':(nl:Int)≤5:=by omega
   by_cases c:no≤34
   ·have c':(no:Int)≤34:=by omega
    go_wp2
    go_ret;exact⟨Zac (by simp[a,b,c]),rfl⟩
   ·have c':¬ (no:Int)≤34:=by omega
    go_wp2
    go_ret;exact⟨Zac (by simp[a,b,c]),rfl⟩
  ·have b':¬ (nl:Int)≤5:=by omega
   go_wp2
   go_ret;exact⟨Zac (by simp[a,b]),rfl⟩
 ·have a':¬ (nw:Int)≤8:=by omega
  go_wp2
  go_ret;exact⟨Zac (by simp[a]),rfl⟩
end
section
open Go Go.ChangeShapes Go.WideShapes Go.ChangeAt Go.WideMaps Go.WideElems Go.RowKit
section
variable {H:Type} {enc:TypeId×Value→H} {W:World}
theorem Zxq {fuel:Nat} {cs:List Value} {y:DataW H×List MemPlace} (hl:cs.length=4) (h:DataW.trod enc Tryz.prog W 0 (fun _=>true) true fuel 39 cs=some y):∃ x:Use,cs=Zbx x:=by
 obtain⟨xs,n2,hn,-,hl2,hxl,hf⟩:=DataW.trod_struct Tryz.underlying39 h
 match cs,hl with
 | [c0,c1,c2,c3],_ =>
  match xs,hxl with
  | [y0,y1,y2,y3],_ =>
   have f0:DataW.trod enc Tryz.prog W 0 (fun _=>true) true n2 3 (([c0,c1,c2,c3]:List Value).drop 0 |>.take (Tryz.prog.cellsOf 3))=some y0:=hf 0 _ rfl;have f1:DataW.trod enc Tryz.prog W 0 (fun _=>true) true n2 3 (([c0,c1,c2,c3]:List Value).drop 1 |>.take (Tryz.prog.cellsOf 3))=some y1:=hf 1 _ rfl;have f2:DataW.trod enc Tryz.prog W 0 (fun _=>true) true n2 3 (([c0,c1,c2,c3]:List Value).drop 2 |>.take (Tryz.prog.cellsOf 3))=some y2:=hf 2 _ rfl;have f3:DataW.trod enc Tryz.prog W 0 (fun _=>true) true n2 3 (([c0,c1,c2,c3]:List Value).drop 3 |>.take (Tryz.prog.cellsOf 3))=some y3:=hf 3 _ rfl;rw[cI] at f0 f1 f2 f3;obtain⟨k0,e0,-,-⟩:=DataW.trod_int Tryz.underlying3 (show DataW.trod enc Tryz.prog W 0 (fun _=>true) true n2 3 [c0]=some y0 from f0);obtain⟨k1,e1,-,-⟩:=DataW.trod_int Tryz.underlying3 (show DataW.trod enc Tryz.prog W 0 (fun _=>true) true n2 3 [c1]=some y1 from f1);obtain⟨k2,e2,-,-⟩:=DataW.trod_int Tryz.underlying3 (show DataW.trod enc Tryz.prog W 0 (fun _=>true) true n2 3 [c2]=some y2 from f2);obtain⟨k3,e3,-,-⟩:=DataW.trod_int Tryz.underlying3 (show DataW.trod enc Tryz.prog W 0 (fun _=>true) true n2 3 [c3]=some y3 from f3);simp only[List.cons.injEq,and_true] at e0 e1 e2 e3;subst e0 e1 e2 e3;exact⟨⟨k0,k1,k2,k3⟩,rfl⟩
theorem Zuu {r:Reach} {b0:Nat} {v:Value} {d:DataW H} {p:List MemPlace} (hv:Value.okWide Tryz.prog W r b0 56 v) (h:DataW.Trod enc Tryz.prog W 0 (fun _=>true) true 56 v d p) :
  ∃ (l:List Wsh) (ao:Option Addr) (n c:Nat),v = .slice ao n c∧n=l.length∧n≤9223372036854775807∧Zak Zpy W ao l:=by
 obtain⟨a0,len,cap,rfl⟩:=okWide_slice Tryz.underlying56 hv;obtain⟨fuel,hf⟩:=h;obtain⟨l,ao,n,c,h1,h2,h3,h4,-,h5⟩:=Zus (show DataW.trod enc Tryz.prog W 0 (fun _=>true) true fuel 56 [.slice a0 len cap]=some (d,p) from hf);exact⟨l,ao,n,c,h1,h2,h4,h5⟩
theorem Zxr {r:Reach} {b0:Nat} {v:Value} {d:DataW H} {p:List MemPlace} (hv:Value.okWide Tryz.prog W r b0 39 v) (h:DataW.Trod enc Tryz.prog W 0 (fun _=>true) true 39 v d p) :
  ∃ (x:Use),v = .agg (Zbx x).toArray:=by
 obtain⟨cs,rfl,hsz⟩:=okWide_struct Tryz.underlying39 hv;obtain⟨fuel,hf⟩:=h;have hcs:(Value.agg cs).cells=cs:=rfl;rw[hcs] at hf
 have hl:cs.toList.length=4:=by
  obtain⟨xs,n2,hn,-,hl,hxl,-⟩:=DataW.trod_struct Tryz.underlying39 hf;rw[hl];kernel_rfl
 obtain⟨x,hx⟩:=Zxq hl hf;exact⟨x,by rw[← hx]⟩
end
end
section
open Go.RowKit Go.Sort Go.Maps
theorem Zaf.off {w:World} {g:Nat} {t:TypeId} {cs:List Value} (h:Zaf w g t cs) {p:Addr} (hp:g≠p.block) (u:Value):Zaf (w.setCell p u) g t cs:=by
 unfold Zaf;rw[Below.heap_setCell _ _ _ _ hp];exact h
theorem Zya {w:World} {c:Crw} {qo mo uo:Option Addr} {qn mn un qc mc uc:Nat} (h:Zgs w c [.slice qo qn qc,.slice mo mn mc,.slice uo un uc]):Zak Zbx w uo c.us∧un=c.us.length∧un≤uc:=by
 obtain⟨qo',qc',mo',mc',uo',uc',he,h1,h2,h3,h4⟩:=h;simp only[List.cons.injEq,Value.slice.injEq,and_true] at he;obtain⟨⟨rfl,rfl,rfl⟩,⟨rfl,rfl,rfl⟩,rfl,rfl,rfl⟩:=he;exact⟨h3,rfl,h4⟩
def Zoo (c:Crw) (us:List Use):Crw:=⟨c.qs,c.ms,us⟩
theorem Zuv {w:World} {c:Crw} {qo mo uo:Option Addr} {qn mn un qc mc uc B:Nat} (h:ArgC w c [.slice qo qn qc,.slice mo mn mc,.slice uo un uc] B) {us:List Use} {xo:Option Addr} {xc n:Nat} (hu:Zak Zbx w xo us) (hn:n=us.length) (hl:n≤xc) (h9:us.length≤999):ArgC w (Zoo c us) [.slice qo qn qc,.slice mo mn mc,.slice xo n xc] B:=by
 obtain⟨⟨qo',qc',mo',mc',uo',uc',he,h1,h2,h3,h4⟩,htab,hok,hnu⟩:=h;simp only[List.cons.injEq,Value.slice.injEq,and_true] at he;obtain⟨⟨rfl,rfl,rfl⟩,⟨rfl,rfl,rfl⟩,-,-,-⟩:=he;exact⟨⟨_,_,_,_,_,_,by rw[hn];rfl,h1,h2,hu,by show us.length≤xc;omega⟩,htab,⟨hok.q,hok.m,hok.nq,hok.nm,by show us.length≤1000000;omega⟩,h9⟩
theorem Zuw (c:Crw) (us:List Use):Zbb (Zoo c us)=us.map (Zcz c (Zaj c)):=rfl
theorem Zrc (c:Crw):Zam c=true↔c.qs.length≤128∧c.ms.length≤64∧c.us.length≤4096∧(∀ p∈c.qs,Zbs p=true)∧(∀ m∈c.ms,Zd4 m=true)∧∀ x∈c.us,Zcm c.qs.length c.ms.length x=true:=by
 constructor
 ·exact Zao
 ·rintro⟨h1,h2,h3,h4,h5,h6⟩
  unfold Zam;rw[decide_eq_true h1,decide_eq_true h2,decide_eq_true h3]
  have e1:c.qs.any (fun q=>!Zbs q)=false:=by rw[List.any_eq_false];intro q hq;rw[h4 q hq];decide
  have e2:c.ms.any (fun m=>!Zd4 m)=false:=by rw[List.any_eq_false];intro q hq;rw[h5 q hq];decide
  have e3:c.us.any (fun x=>!Zcm c.qs.length c.ms.length x)=false:=by rw[List.any_eq_false];intro q hq;rw[h6 q hq];decide
  rw[e1,e2,e3];rfl
theorem Zjg {c:Crw} {us:List Use} (h:Zam c=true) (hl:us.length≤4096) (hu:∀ x∈us,Zcm c.qs.length c.ms.length x=true):Zam (Zoo c us)=true:=by
 obtain⟨h1,h2,h3,h4,h5,h6⟩:=Zao h;exact (Zrc _).2 ⟨h1,h2,hl,h4,h5,hu⟩
theorem Zzl (c:Crw) (H:List (List Bool)) (x:Use) {k:Nat} (hk:k<c.ms.length):(Zcz c H x).getD k false=Zx6 c H x k:=by
 unfold Zcz;rw[List.getD_eq_getElem?_getD,List.getElem?_map,List.getElem?_range hk];rfl
theorem Zux {c:Crw} (us:List Use) {v:Nat} (hv:v<us.length) {k:Nat} (hk:k<c.ms.length):(Zbg (Zoo c us) (Zbb (Zoo c us))).can v k=Zx6 c (Zaj c) (us.getD v ⟨0,0,0,0⟩) k:=by
 show ((us.map (Zcz c (Zaj c))).getD v []).getD k false=_
 have h1:(us.map (Zcz c (Zaj c))).getD v []=Zcz c (Zaj c) us[v]:=by rw[List.getD_eq_getElem?_getD,List.getElem?_map,List.getElem?_eq_getElem hv];rfl
 have h2:us.getD v ⟨0,0,0,0⟩=us[v]:=by rw[List.getD_eq_getElem?_getD,List.getElem?_eq_getElem hv];rfl
 rw[h1,h2,Zzl c _ _ hk]
end
section
open Go.RowKit Go.Sort Go.Maps
theorem Zrd (c:Crw) (x:Use):Za8 c x=Zoo c (c.us++[x]):=rfl
theorem Zni (c:Crw) (x:Use):Zbb (Za8 c x)=Zbb c++[Zcz c (Zaj c) x]:=by
 rw[Zrd,Zuw,List.map_append];rfl
theorem Zre {c:Crw} (hv:Zam c=true) (hn:c.us.length≤999) (x:Use):Zam (Za8 c x)=Zcm c.qs.length c.ms.length x:=by
 obtain⟨h1,h2,h3,h4,h5,h6⟩:=Zao hv;rw[Bool.eq_iff_iff];constructor
 ·intro h
  exact (Zao h).2.2.2.2.2 x (by show x∈c.us++[x];simp)
 ·intro h
  refine Zjg hv (by simp;omega) (fun y hy=>?_);rcases List.mem_append.1 hy with g | g
  ·exact h6 y g
  ·rw[List.mem_singleton.1 g];exact h
theorem Zop {c:Crw} (hv:Zam c=true) (x:Use):Zb0 c x=Zcm c.qs.length c.ms.length x:=by
 unfold Zb0;rw[hv,Bool.true_and]
end
section
open Go.RowKit Go.Sort Go.Maps
def Znj (a b:List Int):Bool:=a.all (fun x=>b.any (fun y=>x==y))
theorem Zuy {a b:List Int}:Znj a b=true↔∀ x∈a,x∈b:=by
 unfold Znj;rw[List.all_eq_true];constructor
 ·intro h x hx
  obtain⟨y,hy,e⟩:=List.any_eq_true.1 (h x hx);rw[beq_iff_eq] at e;rw[e];exact hy
 ·intro h x hx
  exact List.any_eq_true.2 ⟨x,h x hx,by simp⟩
theorem Zxs (w:World) (a b:List Int) (ao bo:Option Addr) (ac bc:Nat) (ha:Zak Zbd w ao a) (hb:Zak Zbd w bo b) (hl:a.length≤1000000) (hl2:b.length≤1000000) :
  Calls Tryz.prog 26 #[.slice ao a.length ac,.slice bo b.length bc] w fun e w'=>e = .returned (.bool (Znj a b))∧Below w.heap.size w w':=by
 have HA:=ħ (fun W (hW:Below w.heap.size w W)=>ha.below hW);have HB:=ħ (fun W (hW:Below w.heap.size w W)=>hb.below hW);have HGA:Hid (∀ (i:Nat),i<a.length→∃ x,a[i]?=some x):=ħ (fun i h=>⟨_,List.getElem?_eq_getElem h⟩);have HGB:Hid (∀ (i:Nat),i<b.length→∃ x,b[i]?=some x):=ħ (fun i h=>⟨_,List.getElem?_eq_getElem h⟩)
 have HNB:Hid (∀ (x:Int) (k:Nat) (y:Int),b[k]?=some y→(b.take (k+1)).any (fun z=>x==z)=((b.take k).any (fun z=>x==z)||(x==y))):=ħ (fun x k y hy=>by
  rw[List.take_add_one,hy,List.any_append];simp)
 have HEB:Hid (∀ x:Int,(b.take b.length).any (fun z=>x==z)=b.any (fun z=>x==z)):=ħ (fun x=>by rw[List.take_length])
 have HNA:Hid (∀ (i:Nat) (x:Int),a[i]?=some x→(a.take (i+1)).all (fun x=>b.any (fun y=>x==y))=((a.take i).all (fun x=>b.any (fun y=>x==y))&&b.any (fun y=>x==y))):=ħ (fun i x hx=>by
  rw[List.take_add_one,hx,List.all_append];simp)
 have HEA:Hid ((a.take a.length).all (fun x=>b.any (fun y=>x==y))=Znj a b):=ħ (by rw[List.take_length];rfl)
 have HFA:Hid (∀ (i:Nat) (x:Int),a[i]?=some x→b.any (fun y=>x==y)=false→Znj a b=false):=ħ (fun i x hx h=>by
  unfold Znj;rw[List.all_eq_false]
  exact⟨x,List.mem_of_getElem? hx,by rw[h];decide⟩)
 clear ha hb;generalize Znj a b=DE at *;generalize hal:a.length=al at *;generalize hbl:b.length=bl at *;clear hal hbl
 go_enter Tryz.func26,Tryz.ntmps26
 go_wp2_with fail
 go_loopw [5] (fun iv wr=>∃ (i:Nat),iv = .int .i64 i∧i≤al∧Hid ((a.take i).all (fun x=>b.any (fun y=>x==y))=true)∧Hid (Below w.heap.size w wr)) (fun i _=>(al-intOf i).toNat)
 case atStart=>exact⟨0,rfl,by omega,ħ rfl,ħ (Below.refl _ _)⟩
 case round =>
  obtain⟨i,rfl,hi,HJ,BB⟩:=hrel;have e2:IntKind.i64.wrap ((i:Int)+1)=((i+1:Nat):Int):=IntWalk.i64_in _ (by omega);by_cases hin:i<al
  ·have ii:(i:Int)<al:=by omega
   obtain⟨x,hx⟩:=HGA.o i hin;have HX:=ħ hx;clear hx
   go_upto_region 6 with (fail)
   go_wp2_with fail
   generalize wr=wo at *
   go_loopw [6,7] (fun fv kv wr=>∃ (k:Nat),kv = .int .i64 k∧k≤bl∧fv = .bool ((b.take k).any (fun z=>x==z))∧Hid (Below w.heap.size w wr)) (fun _ k _=>(bl-intOf k).toNat)
   case atStart=>exact⟨0,rfl,by omega,rfl,BB⟩
   case round =>
    clear BB;obtain⟨k,rfl,hk,rfl,BB⟩:=hrel;have e3:IntKind.i64.wrap ((k:Int)+1)=((k+1:Nat):Int):=IntWalk.i64_in _ (by omega);by_cases hkn:k<bl
    ·have kk:(k:Int)<bl:=by omega
     obtain⟨y,hy⟩:=HGB.o k hkn;have HN:=ħ (HNB.o x k y hy);obtain⟨ga,oa,hao,hga,a0⟩:=(HA.o wr BB.o).int i x HX.o;obtain⟨gb,ob,hbo,hgb,b0⟩:=(HB.o wr BB.o).int k y hy;have HAO:=ħ hao;have HBO:=ħ hbo;subst hao;subst hbo;clear hga hgb hy;obtain⟨fb,hfb⟩:∃ t,(b.take k).any (fun z=>x==z)=t:=⟨_,rfl⟩;rw[hfb] at HN ⊢;clear hfb
     cases fb with
     | true =>
      go_upto_region 8 with (fail)
      go_quiet (fail)
      have B3:=ħ (below_drewN BB.o nq);clear a0 b0 BB;generalize wr.drewN nq=wd at *
      go_wp2_with fail
      go_roundw
      case rel=>exact⟨k+1,by go_num,by omega,by rw[HN.o];rfl,B3⟩
      case measure=>simp only[intOf];omega
     | false =>
      obtain⟨xb,hxb⟩:∃ t,(x==y)=t:=⟨_,rfl⟩;rw[hxb] at HN
      cases xb with
      | true =>
       go_upto_region 8 with (fail)
       go_quiet (fail)
       have B3:=ħ (below_drewN BB.o nq);clear a0 b0 BB;generalize wr.drewN nq=wd at *
       go_wp2_with fail
       go_roundw
       case rel=>exact⟨k+1,by go_num,by omega,by rw[HN.o];rfl,B3⟩
       case measure=>simp only[intOf];omega
      | false =>
       go_upto_region 8 with (fail)
       go_quiet (fail)
       have B3:=ħ (below_drewN BB.o nq);clear a0 b0 BB;generalize wr.drewN nq=wd at *
       go_wp2_with fail
       go_roundw
       case rel=>exact⟨k+1,by go_num,by omega,by rw[HN.o];rfl,B3⟩
       case measure=>simp only[intOf];omega
    ·have kk:¬ (k:Int)<bl:=by omega
     obtain rfl:k=bl:=by omega
     rw[HEB.o x];have HNX:=ħ (HNA.o i x HX.o);have HFX:=ħ (HFA.o i x HX.o);obtain⟨fb,hfb⟩:∃ t,b.any (fun z=>x==z)=t:=⟨_,rfl⟩;rw[hfb] at HNX HFX ⊢;clear hfb
     cases fb with
     | true =>
      go_wp2_with fail
      go_roundw
      case rel=>exact⟨i+1,by go_num,by omega,ħ (by rw[HNX.o,HJ.o];rfl),BB⟩
      case measure=>simp only[intOf];omega
     | false =>
      have HD:=ħ (HFX.o rfl)
      go_wp2_with fail
      go_ret;exact⟨by rw[HD.o];rfl,BB.o⟩
  ·have ii:¬ (i:Int)<al:=by omega
   obtain rfl:al=i:=by omega
   have HD:Hid (DE=true):=ħ (by rw[← HEA.o];exact HJ.o)
   go_wp2_with fail
   go_ret;exact⟨by rw[HD.o];rfl,BB.o⟩
end
section
open Go.RowKit Go.Sort Go.Maps
theorem Zuz (p:Nat→Bool) {n i:Nat} (hi:i<n) (h:p i=true):((List.range n).filter p)[(List.range i).countP p]?=some i:=by
 obtain⟨d,rfl⟩:∃ d,n=i+1+d:=⟨n-(i+1),by omega⟩;rw[show i+1+d=i+(1+d) by omega,List.range_add,List.filter_append,List.countP_eq_length_filter,List.getElem?_append_right (Nat.le_refl _),Nat.sub_self];rw[show (1+d)=d+1 by omega,List.range_succ_eq_map,List.map_cons,List.filter_cons];rw[if_pos (by rw[Nat.add_zero];exact h)];rfl
end
section
open Go.RowKit Go.Sort Go.Maps
theorem Zu0 {α:Type} (l:List α) (d:α):l=(List.range l.length).map (fun i=>l.getD i d):=by
 apply List.ext_getElem?;intro i;rw[List.getElem?_map];by_cases hi:i<l.length
 ·rw[List.getElem?_range hi,List.getElem?_eq_getElem hi];simp[hi]
 ·rw[List.getElem?_eq_none (by omega),List.getElem?_eq_none (by rw[List.length_range];omega)];rfl
def Z1t {α:Type} (u:Nat) (l:List α):List α:=l.drop u++l.take u
theorem Zp1 {α:Type} {l:List α} {d:α} {ix:List Nat} {k:Nat} (hk:k<ix.length):(ix.map (fun i=>l.getD i d)).getD k d=l.getD (ix.getD k 0) d:=by
 rw[List.getD_eq_getElem?_getD,List.getElem?_map,List.getD_eq_getElem?_getD (l:=ix),List.getElem?_eq_getElem hk];rfl
def ixC (c:Crw) (ix:List Nat):Crw:=Zoo c (ix.map (fun i=>c.us.getD i ⟨0,0,0,0⟩))
theorem Zfj (c:Crw) (ix:List Nat):(ixC c ix).us.length=ix.length:=by show (ix.map _).length=_;rw[List.length_map]
theorem Zu1 {c:Crw} {ix:List Nat} (hlt:∀ i∈ix,i<c.us.length) {v k:Nat} (hv:v<ix.length) (hk:k<c.ms.length):(Zbg (ixC c ix) (Zbb (ixC c ix))).can v k=((Zbg c (Zbb c)).sub ix).can v k:=by
 have h1:=Zux (c:=c) (ix.map (fun i=>c.us.getD i ⟨0,0,0,0⟩)) (v:=v) (by rw[List.length_map];exact hv) hk;have h2:(Zbg c (Zbb c)).can (ix.getD v 0) k=Zx6 c (Zaj c) (c.us.getD (ix.getD v 0) ⟨0,0,0,0⟩) k:=Zux (c:=c) c.us (hlt _ (Zic hv)) hk;rw[Zp1 hv] at h1;exact h1.trans h2.symm
theorem Zu2 {c:Crw} {ix:List Nat} {v:Nat} (hv:v<ix.length):(Zbg (ixC c ix) (Zbb (ixC c ix))).win v=((Zbg c (Zbb c)).sub ix).win v:=by
 show ((ix.map (fun i=>c.us.getD i ⟨0,0,0,0⟩)).getD v ⟨0,0,0,0⟩).w.toNat=_;rw[Zp1 hv];rfl
theorem Znk {c:Crw} {ix:List Nat} (hlt:∀ i∈ix,i<c.us.length) (a:Nat→Nat):Legal (Zbg (ixC c ix) (Zbb (ixC c ix))) a↔Legal ((Zbg c (Zbb c)).sub ix) a:=by
 have hl:=Zfj c ix;constructor
 ·exact Zma hl rfl (fun v k hv hk=>Zu1 hlt (by rw[← hl];exact hv) hk) (fun v hv=>Zu2 (by rw[← hl];exact hv)) (fun m w _=>rfl)
 ·exact Zma hl.symm rfl (fun v k hv hk=>(Zu1 hlt hv hk).symm) (fun v hv=>(Zu2 hv).symm) (fun m w _=>rfl)
theorem Zjh {c:Crw} (hv:Zam c=true) {ix:List Nat} (hlt:∀ i∈ix,i<c.us.length) (hle:ix.length≤c.us.length):Zam (ixC c ix)=true:=by
 have h:=Zao hv;refine Zjg hv (by rw[List.length_map];exact Nat.le_trans hle h.2.2.1) (fun x hx=>?_);obtain⟨i,hi,rfl⟩:=List.mem_map.1 hx;refine h.2.2.2.2.2 _ ?_;rw[List.getD_eq_getElem?_getD,List.getElem?_eq_getElem (hlt i hi)];exact List.getElem_mem _
section
variable {c:Crw} (hv:Zam c=true) (hn:c.us.length≤1000) (ho:∀ x∈c.us,x.h = -1) {jx:List Nat} (hp:jx.Perm (List.range c.ms.length))
include hp in
include hp in
include hp in
include ho hp in
include hp in
include hp in
include hp in
include ho hp in
include hv hn ho hp in
include hv hn ho hp in
include hv hn ho hp in
end
structure TurP (c:Crw) (c1 c2:Crw) (un u:Nat) (opened:Bool):Prop where
 v1:Zam c1=true
 v2:Zam c2=true
 ls:(Zc7 c).length=un
 l2:(Zc7 c2).length=un
 rot:Zc7 c1=Z1t u (Zc7 c)
 cnt:Zd9 c1=Zd9 c
 cn2:opened=false→Zd9 c2=Zd9 c
 row:opened=false→∀ (n:Nat) (r s:List Int),(Zc7 c)[n]?=some r→(Zc7 c2)[n]?=some s→r.length=s.length
end
section
open Go.RowKit Go.Sort Go.Maps
def Zgc (s j:Nat):Bool:=s/2^j%2==1
def nbU (L s:Nat):Nat:=((List.range L).filter (Zgc s)).length
def Z1f (l:List Int) (s i:Nat):List Int:=((List.range i).filter (Zgc s)).map (fun j=>l.getD j 0)
theorem Zp2 (L s:Nat):nbU L s≤L:=by unfold nbU;exact Zbn _ _
structure UniP (c:Crw) (l:List Int) (L mn:Nat) (S:Nat→Int) (n:Nat):Prop where
 s1:S 1=0
 odd:∀ s,1≤s→nbU L s%2=1→S (s+1)=S s+(((Znd c (Z1f l s L)).length:Nat):Int)
 even:∀ s,1≤s→nbU L s%2≠1→S (s+1)=S s-(((Znd c (Z1f l s L)).length:Nat):Int)
 bnd:∀ s,s≤32→-2080≤S s∧S s≤2080
 cl:∀ l',(Znd c l').length≤65
 all:S (2^L)=((n:Nat):Int)
 com:Znd c l=(List.range mn).filter (Zzt c l)
theorem Zln (s i:Nat):nbU (i+1) s=nbU i s+(if Zgc s i=true then 1 else 0):=by
 unfold nbU;rw[List.range_succ,List.filter_append,List.length_append];by_cases h:Zgc s i=true<;>simp[h]
end
section
open Go.RowKit Go.Sort Go.Maps
theorem Zlo {c:Crw} {ch:List Nat} (hlt:∀ i∈ch,i<c.us.length):Zfi (Zbb c) ch=Zbb (Zcp c ch):=by
 show ch.map (fun u=>(Zbb c).getD u [])=(ch.map (fun u=>c.us.getD u ⟨0,0,0,0⟩)).map (Zcz c (Zaj c));rw[List.map_map];refine List.map_congr_left (fun u hu=>?_);have h:=hlt u hu;show (c.us.map (Zcz c (Zaj c))).getD u []=Zcz c (Zaj c) (c.us.getD u ⟨0,0,0,0⟩);rw[List.getD_eq_getElem?_getD,List.getElem?_map,List.getElem?_eq_getElem h,List.getD_eq_getElem?_getD,List.getElem?_eq_getElem h];rfl
theorem Zu3 {c:Crw} {H C:List (List Bool)} {own own':List Int} (h:∀ q,q∈own↔q∈own') (x:Use) (l:List Wsh):Zb6 c H C own x l=Zb6 c H C own' x l:=by
 unfold Zb6
 have:own.any (Zok (Za8 c x) (C++[Zcz c H x]) x.w l)=own'.any (Zok (Za8 c x) (C++[Zcz c H x]) x.w l):=by
  rw[Bool.eq_iff_iff,List.any_eq_true,List.any_eq_true];constructor
  ·rintro⟨q,h1,h2⟩;exact⟨q,(h q).1 h1,h2⟩
  ·rintro⟨q,h1,h2⟩;exact⟨q,(h q).2 h1,h2⟩
 rw[this]
theorem Zcb {n:Nat} {ch:List Nat} (h:ch.Sublist (List.range n)):∀ i∈ch,i<n:=fun i hi=>List.mem_range.1 (h.subset hi)
theorem Zbf {n:Nat} {ch:List Nat} (h:ch.Sublist (List.range n)):ch.length≤n:=by have:=h.length_le;rwa [List.length_range] at this
theorem Zeu {n:Nat} {ch:List Nat} (h:ch.Sublist (List.range n)):ch.Nodup:=List.nodup_range.sublist h
theorem Zlp {ch:List Nat} {own:List Int} {q:Int} (h:q∈(Zdl ch own).map Int.ofNat):∃ u:Nat,q=(u:Int)∧u<ch.length∧((ch.getD u 0:Nat):Int)∈own:=by
 obtain⟨u,hu,rfl⟩:=List.mem_map.1 h;unfold Zdl at hu;obtain⟨h1,h2⟩:=List.mem_filter.1 hu;unfold Zol at h2;exact⟨u,rfl,List.mem_range.1 h1,by simpa using h2⟩
theorem Zp3 {ch:List Nat} {own:List Int} {u:Nat} (h1:u<ch.length) (h2:((ch.getD u 0:Nat):Int)∈own):(u:Int)∈(Zdl ch own).map Int.ofNat:=by
 refine List.mem_map.2 ⟨u,?_,rfl⟩;unfold Zdl Zol;exact List.mem_filter.2 ⟨List.mem_range.2 h1,by simpa using h2⟩
theorem Zrf {c:Crw} {own:List Int} {x:Use} {l:List Wsh} {ch:List Nat} (hv:Zam c=true) (hp:Zb0 c x=true) (hs:ch.Sublist (List.range c.us.length)) {mine:List Int} (hm:∀ q,q∈mine↔q∈(Zdl ch own).map Int.ofNat):Zhu (Zcp c ch) mine x l=Zeh c own x l ch:=by
 have hlt:=Zcb hs;have hv2:Zam (Zcp c ch)=true:=Zjh hv hlt (Zbf hs);unfold Zhu Zeh
 have h1:Zb0 (Zcp c ch) x=true:=by
  unfold Zb0 at hp ⊢;rw[Bool.and_eq_true] at hp ⊢;exact⟨hv2,hp.2⟩
 have h2:Zlk (Zcp c ch) mine=true:=by
  unfold Zlk;rw[Bool.not_eq_true',List.any_eq_false];intro q hq;obtain⟨u,rfl,h3,-⟩:=Zlp ((hm q).1 hq);have:Zc2 ((u:Nat):Int) (Zcp c ch).us.length=true:=Zxj.2 ⟨by omega,by show u<(ch.map _).length;rw[List.length_map];exact h3⟩;simp[this]
 rw[h1,h2,Zlo hlt,Zu3 hm];rfl
theorem Zgd (c:Crw) (x:Use) {ch:List Nat} (hlt:∀ i∈ch,i<c.us.length):Za8 (Zcp c ch) x=ixC (Za8 c x) (ch++[c.us.length]):=by
 show (⟨c.qs,c.ms,ch.map (fun u=>c.us.getD u ⟨0,0,0,0⟩)++[x]⟩:Crw)=⟨c.qs,c.ms,(ch++[c.us.length]).map (fun u=>(c.us++[x]).getD u ⟨0,0,0,0⟩)⟩;rw[List.map_append]
 have h1:ch.map (fun u=>c.us.getD u ⟨0,0,0,0⟩)=ch.map (fun u=>(c.us++[x]).getD u ⟨0,0,0,0⟩):=List.map_congr_left (fun u hu=>by
  rw[List.getD_eq_getElem?_getD,List.getD_eq_getElem?_getD,List.getElem?_append_left (hlt u hu)])
 have h2:[c.us.length].map (fun u=>(c.us++[x]).getD u ⟨0,0,0,0⟩)=[x]:=by
  show [(c.us++[x]).getD c.us.length ⟨0,0,0,0⟩]=[x];rw[List.getD_eq_getElem?_getD,List.getElem?_append_right (Nat.le_refl _),Nat.sub_self];rfl
 rw[h1,h2]
theorem Zrg {c:Crw} (hv:Zam c=true) (hn:c.us.length≤1000) {ix ix':List Nat} (hs:ix.Sublist ix') (hs':ix'.Sublist (List.range c.us.length)) {k k':Nat} (hk:k<ix.length) (hk':k'<ix'.length) (he:ix.getD k 0=ix'.getD k' 0):(Zht (ixC c ix') (Zbb (ixC c ix')) k').length≤(Zht (ixC c ix) (Zbb (ixC c ix)) k).length:=by
 have hs0:=hs.trans hs';have hlt:=Zcb hs0;have hlt':=Zcb hs';have hnd':=Zeu hs';have hok:=Zar (Zjh hv hlt (Zbf hs0)) (by rw[Zfj];exact Nat.le_trans (Zbf hs0) hn);have hok':=Zar (Zjh hv hlt' (Zbf hs')) (by rw[Zfj];exact Nat.le_trans (Zbf hs') hn);unfold Zht;rw[← List.countP_eq_length_filter,← List.countP_eq_length_filter];show (List.range c.ms.length).countP _≤(List.range c.ms.length).countP _;refine List.countP_mono_left (fun m hm h=>?_);have hm:=List.mem_range.1 hm;rw[Ztn hok' (by rw[Zfj];exact hk') (by exact hm)] at h;rw[Ztn hok (by rw[Zfj];exact hk) (by exact hm)];obtain⟨a,h1,h2⟩:=h;have h3:=(Zp9 hnd' ((Znk hlt' a).1 h1)).less hs;refine⟨_,(Znk hlt _).2 (Zl9.2 h3),?_⟩;show Zvq ix' a (ix.getD k 0)=m;rw[he,Zoz hnd' a hk',h2]
theorem Zu4 {c:Crw} (hv:Zam c=true) (hn:c.us.length≤1000) {ix ix':List Nat} (hs:ix.Sublist ix') (hs':ix'.Sublist (List.range c.us.length)) {k k':Nat} (hk:k<ix.length) (hk':k'<ix'.length) (he:ix.getD k 0=ix'.getD k' 0) {xw:Int} {l:List Wsh} (h:Zok (ixC c ix) (Zbb (ixC c ix)) xw l (k:Int)=true):Zok (ixC c ix') (Zbb (ixC c ix')) xw l (k':Int)=true:=by
 unfold Zok at h ⊢;have e1:(ixC c ix).us.getD ((k:Int).toNat) ⟨0,0,0,0⟩=c.us.getD (ix.getD k 0) ⟨0,0,0,0⟩:=Zp1 hk;have e2:(ixC c ix').us.getD ((k':Int).toNat) ⟨0,0,0,0⟩=c.us.getD (ix'.getD k' 0) ⟨0,0,0,0⟩:=Zp1 hk';rw[e1,Bool.and_eq_true,decide_eq_true_eq] at h;rw[e2,← he,Bool.and_eq_true,decide_eq_true_eq];refine⟨h.1,?_⟩;have:=Zrg hv hn hs hs' hk hk' he;have h2:(((Zht (ixC c ix) (Zbb (ixC c ix)) k).length:Nat):Int)<_:=h.2;show (((Zht (ixC c ix') (Zbb (ixC c ix')) k').length:Nat):Int)<_;omega
theorem Zhw {ch:List Nat} {n k:Nat} (h:k<ch.length):(ch++[n]).getD k 0=ch.getD k 0:=by
 rw[List.getD_eq_getElem?_getD,List.getElem?_append_left h,List.getD_eq_getElem?_getD]
theorem Zhx (ch:List Nat) (n:Nat):(ch++[n]).getD ch.length 0=n:=by
 rw[List.getD_eq_getElem?_getD,List.getElem?_append_right (Nat.le_refl _),Nat.sub_self];rfl
theorem Zu5 {c:Crw} {own:List Int} {x:Use} {l:List Wsh} {ch ch':List Nat} (hv:Zam c=true) (hn:c.us.length≤999) (hp:Zb0 c x=true) (hs:ch.Sublist ch') (hs':ch'.Sublist (List.range c.us.length)) (h:Zeh c own x l ch=false):Zeh c own x l ch'=false:=by
 have hs0:=hs.trans hs';have hlt:=Zcb hs0;have hlt':=Zcb hs'
 have hvp:Zam (Za8 c x)=true:=by rw[Zre hv hn,← Zop hv];exact hp
 have hlen:(Za8 c x).us.length=c.us.length+1:=by show (c.us++[x]).length=_;rw[List.length_append];rfl
 have hS:(ch++[c.us.length]).Sublist (ch'++[c.us.length]):=hs.append (List.Sublist.refl _)
 have hS':(ch'++[c.us.length]).Sublist (List.range (Za8 c x).us.length):=by rw[hlen,List.range_succ];exact hs'.append (List.Sublist.refl _)
 unfold Zeh at h ⊢;rw[Bool.not_eq_false'] at h ⊢;rw[Zlo hlt] at h;rw[Zlo hlt']
 have c1:Zbb (Zcp c ch)++[Zcz (Zcp c ch) (Zaj c) x]=Zbb (ixC (Za8 c x) (ch++[c.us.length])):=by rw[← Zgd c x hlt,Zni];rfl
 have c2:Zbb (Zcp c ch')++[Zcz (Zcp c ch') (Zaj c) x]=Zbb (ixC (Za8 c x) (ch'++[c.us.length])):=by rw[← Zgd c x hlt',Zni];rfl
 unfold Zb6 at h ⊢;rw[Zgd c x hlt,c1,Bool.or_eq_true,List.any_eq_true] at h;rw[Zgd c x hlt',c2,Bool.or_eq_true,List.any_eq_true];have l1:(Zcp c ch).us.length=ch.length:=Zfj c ch;have l2:(Zcp c ch').us.length=ch'.length:=Zfj c ch';rw[l1] at h;rw[l2]
 have b1:ch.length<(ch++[c.us.length]).length:=by rw[List.length_append];simp
 have b2:ch'.length<(ch'++[c.us.length]).length:=by rw[List.length_append];simp
 rcases h with h | ⟨q,hq,h⟩
 ·exact .inl (Zu4 hvp (by rw[hlen];omega) hS hS' b1 b2 (by rw[Zhx,Zhx]) h)
 ·obtain⟨u,rfl,hu,hm⟩:=Zlp hq
  have hmem:ch.getD u 0∈ch':=hs.subset (Zic hu);obtain⟨u',hu',he⟩:=List.mem_iff_getElem.1 hmem
  have he':ch'.getD u' 0=ch.getD u 0:=by rw[List.getD_eq_getElem?_getD,List.getElem?_eq_getElem hu'];exact he
  refine .inr ⟨(u':Int),Zp3 hu' (by rw[he'];exact hm),Zu4 hvp (by rw[hlen];omega) hS hS' (k:=u) (k':=u') (by omega) (by omega) ?_ h⟩;rw[Zhw hu,Zhw hu',he']
theorem Zej (y:List Nat→Bool) (size:Nat):∀ (xs ch:List Nat),Zap y size xs ch=none→∀ sub:List Nat,sub.Sublist xs→(ch++sub).length=size→y (ch++sub)=true
 | [],ch,h,sub,hs,hl=>by
  obtain rfl:=List.sublist_nil.1 hs;rw[List.append_nil] at hl ⊢;rw[Zcu y [] hl] at h;by_cases hy:y ch=true
  ·exact hy
  ·rw[if_neg hy] at h;cases h
 | x::xs,ch,h,sub,hs,hl=>by
  by_cases hc:ch.length=size
  ·have:sub=[]:=List.eq_nil_of_length_eq_zero (by rw[List.length_append] at hl;omega)
   subst this;rw[List.append_nil];rw[Zcu y _ hc] at h;by_cases hy:y ch=true
   ·exact hy
   ·rw[if_neg hy] at h;cases h
  ·unfold Zap at h
   rw[if_neg hc] at h
   have h1:Zap y size xs (ch++[x])=none:=by
    cases hx:Zap y size xs (ch++[x]) with
    | none=>rfl
    | some r=>rw[hx] at h;cases h
   rw[h1] at h;have h2:Zap y size xs ch=none:=h
   cases hs with
   | cons _ hs=>exact Zej y size xs ch h2 sub hs hl
   | cons_cons _ hs =>
    rename_i sub';have:=Zej y size xs (ch++[x]) h1 sub' hs (by rw[List.append_assoc];exact hl);rw[List.append_assoc] at this;exact this
theorem Zfk (y:List Nat→Bool) (size:Nat):∀ (xs ch:List Nat) (r:List Nat),Zap y size xs ch=some r→∃ sub:List Nat,sub.Sublist xs∧r=ch++sub∧r.length=size∧y r=false
 | [],ch,r,h=>by
  by_cases hc:ch.length=size
  ·rw[Zcu y [] hc] at h
   by_cases hy:y ch=true
   ·rw[if_pos hy] at h;cases h
   ·rw[if_neg hy] at h
    obtain rfl:=Option.some.inj h;exact⟨[],List.Sublist.refl _,by simp,hc,by simpa using hy⟩
  ·rw[Zjb y hc] at h;cases h
 | x::xs,ch,r,h=>by
  by_cases hc:ch.length=size
  ·rw[Zcu y _ hc] at h
   by_cases hy:y ch=true
   ·rw[if_pos hy] at h;cases h
   ·rw[if_neg hy] at h
    obtain rfl:=Option.some.inj h;exact⟨[],List.nil_sublist _,by simp,hc,by simpa using hy⟩
  ·unfold Zap at h
   rw[if_neg hc] at h
   cases hx:Zap y size xs (ch++[x]) with
   | some r' =>
    rw[hx] at h;obtain rfl:=Option.some.inj h;obtain⟨sub,h1,h2,h3,h4⟩:=Zfk y size xs (ch++[x]) _ hx;exact⟨x::sub,h1.cons_cons x,by rw[h2,List.append_assoc];rfl,h3,h4⟩
   | none =>
    rw[hx] at h;obtain⟨sub,h1,h2,h3,h4⟩:=Zfk y size xs ch r h;exact⟨sub,h1.cons x,h2,h3,h4⟩
theorem Znl (y:List Nat→Bool) (g:List Nat):∀ n,(Ze6 y g n=none→∀ s,s<n→Zap y s g []=none)∧∀ r,Ze6 y g n=some r→∃ s,s<n∧Zap y s g []=some r∧∀ s',s'<s→Zap y s' g []=none
 | 0=>⟨fun _ s hs=>absurd hs (Nat.not_lt_zero s),fun r h=>(by cases h)⟩
 | n+1=>by
  obtain⟨ih1,ih2⟩:=Znl y g n
  cases hx:Ze6 y g n with
  | none =>
   have hnx:=Zkl y g n hx;refine⟨fun h s hs=>?_,fun r h=>⟨n,by omega,by rw[← hnx];exact h,ih1 hx⟩⟩;rcases Nat.lt_or_ge s n with h1 | h1
   ·exact ih1 hx s h1
   ·obtain rfl:s=n:=by omega
    rw[← hnx];exact h
  | some r0 =>
   have hst:=Zkm y g n (n+1) r0 hx (by omega);refine⟨fun h=>(by rw[hst] at h;cases h),fun r h=>?_⟩;rw[hst] at h;obtain rfl:=Option.some.inj h;obtain⟨s,h1,h2,h3⟩:=ih2 _ hx;exact⟨s,by omega,h2,h3⟩
def Zea (g:List Nat) (s:Nat):List Nat:=((List.range g.length).filter (Zgc s)).map (fun i=>g.getD i 0)
theorem Zih (g:List Nat) (s:Nat):(Zea g s).Sublist g:=by
 unfold Zea;have h:((List.range g.length).filter (Zgc s)).Sublist (List.range g.length):=List.filter_sublist;have:=h.map (fun i=>g.getD i 0)
 rwa [← Zu0 g 0] at this
theorem Zlq (g:List Nat) (s:Nat):(Zea g s).length=nbU g.length s:=by unfold Zea nbU;rw[List.length_map]
theorem Zkn {α:Type} {p q:α→Bool}:∀ l:List α,(∀ x∈l,p x=true→q x=true)→(l.filter p).Sublist (l.filter q)
 | [],_=>List.Sublist.refl _
 | x::l,h=>by
  have ih:=Zkn l (fun y hy=>h y (List.mem_cons_of_mem _ hy));by_cases hp:p x=true
  ·rw[List.filter_cons_of_pos hp,List.filter_cons_of_pos (h x List.mem_cons_self hp)]
   exact ih.cons_cons x
  ·rw[List.filter_cons_of_neg hp]
   by_cases hq:q x=true
   ·rw[List.filter_cons_of_pos hq];exact ih.cons x
   ·rw[List.filter_cons_of_neg hq];exact ih
theorem Znm (s j:Nat):Zgc s j=s.testBit j:=by
 unfold Zgc;rw[Nat.testBit_eq_decide_div_mod_eq];rfl
theorem Zjw {r g:List Nat} (h:r.Sublist g) (hn:g.Nodup):g.filter (fun x=>r.contains x)=r:=by
 induction h with
 | slnil=>rfl
 | cons a h ih =>
  rename_i l1 l2;have hn2:=List.nodup_cons.1 hn
  rw[List.filter_cons_of_neg (by
   intro hc
   have:a∈l1:=by simpa using hc
   exact hn2.1 (h.subset this))]
  exact ih hn2.2
 | cons_cons a h ih =>
  rename_i l1 l2;have hn2:=List.nodup_cons.1 hn;rw[List.filter_cons_of_pos (by simp)]
  congr 1
  have:l2.filter (fun x=>(a::l1).contains x)=l2.filter (fun x=>l1.contains x):=List.filter_congr (fun x hx=>by
   have hxa:x≠a:=fun e=>hn2.1 (e ▸ hx)
   rw[List.contains_cons]
   have:(x==a)=false:=by simpa using hxa
   rw[this,Bool.false_or])
  rw[this];exact ih hn2.2
def chU (f:Nat→Bool):Nat→Nat
 | 0=>0
 | i+1=>chU f i+(if f i=true then 2^i else 0)
theorem Zlr (f:Nat→Bool):∀ k,chU f k=Ze2 f k
 | 0=>rfl
 | k+1=>by
  show chU f k+_=Ze2 f k ||| (if f k=true then 2^k else 0);rw[Zlr f k];by_cases h:f k=true
  ·rw[if_pos h]
   have:=Nat.two_pow_add_eq_or_of_lt (Zfq f k) 1;rw[Nat.mul_one] at this;rw[Nat.or_comm,← this,Nat.add_comm]
  ·rw[if_neg h,Nat.or_zero,Nat.add_zero]
theorem Zzm (f:Nat→Bool) {k i:Nat} (h:i<k):Zgc (chU f k) i=f i:=by
 rw[Znm,Zlr,Zl8,decide_eq_true h,Bool.true_and]
theorem Z0i (f:Nat→Bool) (k:Nat):chU f k<2^k:=by rw[Zlr];exact Zfq f k
theorem Zu6 {r g:List Nat} (h:r.Sublist g) (hn:g.Nodup):Zea g (chU (fun i=>r.contains (g.getD i 0)) g.length)=r:=by
 unfold Zea
 rw[List.filter_congr (q:=(fun x=>r.contains x) ∘ (fun i=>g.getD i 0)) (fun i hi=>by
  rw[Zzm _ (List.mem_range.1 hi)];rfl),← List.filter_map,← Zu0 g 0]
 exact Zjw h hn
theorem Zu7 (g:List Nat) {s t:Nat} (h:t &&& s=s):(Zea g s).Sublist (Zea g t):=by
 unfold Zea;refine (Zkn _ (fun i _ hi=>?_)).map _;rw[Znm] at hi ⊢;rw[← h,Nat.testBit_and,Bool.and_eq_true] at hi;exact hi.1
structure ExpP (g:List Nat) (y:List Nat→Bool) (e:Nat) (r:List Nat):Prop where
 en:e=0∨e=4
 nn:e=4→r=[]
 none:e=4→∀ s,y (Zea g s)=true
 few:e=0→∀ s,nbU g.length s<r.length→y (Zea g s)=true
 all:e=0→∀ s,s &&& chU (fun i=>r.contains (g.getD i 0)) g.length=chU (fun i=>r.contains (g.getD i 0)) g.length→y (Zea g s)=false
 siz:nbU g.length (chU (fun i=>r.contains (g.getD i 0)) g.length)=r.length
theorem Zzn {c:Crw} {own:List Int} {x:Use} {l:List Wsh} (hv:Zam c=true) (hn:c.us.length≤5) (hp:Zb0 c x=true) (ho:Zlk c own=true):ExpP (Zdv c x.w) (Zeh c own x l) (Zf9 c own x l).2 (Zf9 c own x l).1:=by
 have hgs:(Zdv c x.w).Sublist (List.range c.us.length):=List.filter_sublist;have hgl:=Zbf hgs;have hgn:=Zeu hgs;unfold Zf9;rw[hp,ho,if_pos (by rfl),if_neg (by omega)];obtain⟨h1,h2⟩:=Znl (Zeh c own x l) (Zdv c x.w) ((Zdv c x.w).length+1)
 have hchz:∀ g:List Nat,chU (fun i=>([]:List Nat).contains (g.getD i 0)) g.length=0:=fun g=>by
  generalize g.length=k
  induction k with
  | zero=>rfl
  | succ k ih=>show chU _ k+_=0;rw[ih];rfl
 have hnb0:∀ L,nbU L 0=0:=fun L=>by
  unfold nbU;rw[List.length_eq_zero_iff,List.filter_eq_nil_iff];intro j _ hj;unfold Zgc at hj;rw[Nat.zero_div] at hj;cases hj
 cases hx:Ze6 (Zeh c own x l) (Zdv c x.w) ((Zdv c x.w).length+1) with
 | none =>
  refine⟨.inr rfl,fun _=>rfl,fun _ s=>?_,fun h=>(by cases h),fun h=>(by cases h),by rw[hchz,hnb0];rfl⟩;have hs:=Zih (Zdv c x.w) s;have:=Zej _ _ _ _ (h1 hx (Zea (Zdv c x.w) s).length (by have:=hs.length_le;omega)) (Zea (Zdv c x.w) s) hs rfl;exact this
 | some r =>
  obtain⟨s0,g1,g2,g3⟩:=h2 r hx;obtain⟨sub,g4,g5,g6,g7⟩:=Zfk _ _ _ _ _ g2;rw[List.nil_append] at g5;subst g5;refine⟨.inl rfl,fun h=>(by cases h),fun h=>(by cases h),fun _ s hs=>?_,fun _ s hs=>?_,?_⟩
  ·have hss:=Zih (Zdv c x.w) s
   rw[← Zlq] at hs;have:=Zej _ _ _ _ (g3 (Zea (Zdv c x.w) s).length (by show _<s0;rw[← g6];exact hs)) (Zea (Zdv c x.w) s) hss rfl;exact this
  ·have hm:=Zu7 (Zdv c x.w) hs
   rw[Zu6 g4 hgn] at hm;exact Zu5 hv (by omega) hp hm ((Zih _ _).trans hgs) g7
  ·rw[← Zlq,Zu6 g4 hgn]
end
end Go.Proofs.YtbcgocpihobjnaaGreatDoor
