import Derived.Test.YtbcgocpihobjnaaGreatDoorCE45
import Derived.Test.YtbcgocpihobjnaaGreatDoorCE41
import Derived.Test.YtbcgocpihobjnaaGreatDoorCE39
import Derived.Test.YtbcgocpihobjnaaGreatDoorCE34
import Derived.Test.YtbcgocpihobjnaaGreatDoorCE38
import Derived.Test.YtbcgocpihobjnaaGreatDoorCE23
import Derived.Test.YtbcgocpihobjnaaGreatDoorCE11
import Derived.Test.YtbcgocpihobjnaaGreatDoorCE42
import Derived.Test.YtbcgocpihobjnaaGreatDoorCE36
set_option linter.all false
set_option maxHeartbeats 32000000
set_option maxRecDepth 100000
namespace Go.Proofs.YtbcgocpihobjnaaGreatDoor
section
open Go Go.ChangeShapes Go.WideShapes Go.ChangeAt Go.WideMaps Go.WideElems Go.RowKit
theorem Z30:Tryz.prog.cellsOf 44=3:=by kernel_rfl
theorem Z3k:Tryz.prog.cellsOf 39=4:=by kernel_rfl
theorem cLP:Tryz.prog.cellsOf 22=1:=by kernel_rfl
theorem cLB:Tryz.prog.cellsOf 42=1:=by kernel_rfl
theorem cLI:Tryz.prog.cellsOf 33=1:=by kernel_rfl
theorem cLM:Tryz.prog.cellsOf 23=1:=by kernel_rfl
theorem cLS:Tryz.prog.cellsOf 24=1:=by kernel_rfl
instance:Inhabited Use:=⟨⟨0,0,0,0⟩⟩
instance:Inhabited Wsh:=⟨⟨0,0⟩⟩
instance:Inhabited Mem:=⟨⟨[],[],0⟩⟩
section
variable {H:Type} {enc:TypeId×Value→H} {W:World}
theorem Zwj {fuel:Nat} {v:Value} {y:DataW H×List MemPlace} (h:DataW.trod enc Tryz.prog W 0 (fun _=>true) true fuel 33 [v]=some y) :
  ∃ (l:List Int) (ao:Option Addr) (n c:Nat),v = .slice ao n c∧n=l.length∧n≤c∧n≤9223372036854775807∧Zak Zbe W ao l:=by
 obtain⟨ao,n,c,e4,hmc,hcm,hel⟩:=Zcx Tryz.underlying33 cI (by decide) h;have hlen:n≤9223372036854775807:=Nat.le_trans hmc (Nat.le_trans hcm (by decide));rcases hel with h0 | ⟨g,off,n',h1,h2,h3,h4⟩
 ·exact⟨[],ao,n,c,e4,h0,hmc,hlen,.inl rfl⟩
 ·obtain⟨l,hl,hk⟩:=Zef (α:=Int) n (fun i x=>W.cell? ⟨g,off+i,none⟩=some (.int .i64 x)) (fun i hi=>by
   obtain⟨cs,y,h5,h6,h7⟩:=h4 i hi
   match cs,h5 with
   | [c0],_ =>
    obtain⟨k,e0,-,-⟩:=DataW.trod_int Tryz.underlying3 h7;simp only[List.cons.injEq,and_true] at e0;subst e0;have:=h6 0 _ rfl;rw[Nat.mul_one,Nat.add_zero] at this
    exact⟨k,this⟩)
  refine⟨l,ao,n,c,e4,hl.symm,hmc,hlen,.inr ⟨g,off,h1,h2,fun j u hj=>?_⟩⟩;rw[← Zem,ivs,List.getElem?_map] at hj;obtain⟨x,hx,rfl⟩:=Option.map_eq_some_iff.1 hj;exact hk j x hx
theorem Zwk {fuel:Nat} {v:Value} {y:DataW H×List MemPlace} (h:DataW.trod enc Tryz.prog W 0 (fun _=>true) true fuel 22 [v]=some y) :
  ∃ (l:List Prd) (ao:Option Addr) (n c:Nat),v = .slice ao n c∧n=l.length∧n≤c∧n≤9223372036854775807∧Zfe W (fun _=>True) l ao∧(∀ p∈l,ByL p)∧(∀ p∈l,Zum p):=by
 obtain⟨ao,n,c,e4,hmc,hcm,hel⟩:=Zcx Tryz.underlying22 cP (by decide) h;have hlen:n≤9223372036854775807:=Nat.le_trans hmc (Nat.le_trans hcm (by decide));rcases hel with h0 | ⟨g,off,n',h1,h2,h3,h4⟩
 ·exact⟨[],ao,n,c,e4,h0,hmc,hlen,.inl rfl,by simp,by simp⟩
 ·obtain⟨ks,hkl,hk⟩:=Zef (α:=Prd) n (fun i p=>(∃ vs,Zan W (fun g=>g<W.heap.size) p vs∧Zay W g (off+i*5) vs)∧ByL p∧Zum p) (fun i hi=>by
   obtain⟨cs,y,h5,h6,h7⟩:=h4 i hi;obtain⟨p,hp1,hp2,hp3⟩:=Zvq n' cs y h7
   exact⟨p,⟨cs,hp1,h6⟩,hp2,hp3⟩)
  have hpr:Zfe W (fun g=>g<W.heap.size) ks ao:=.inr ⟨g,off,h1,h2,h2,Zl0 ks g off (fun i p hp=>(hk i p hp).1)⟩;refine⟨ks,ao,n,c,e4,hkl.symm,hmc,hlen,hpr.mono (fun _ _ _=>trivial),fun q hq=>?_,fun q hq=>?_⟩
  ·obtain⟨i,hi⟩:=List.mem_iff_getElem?.1 hq
   exact (hk i q hi).2.1
  ·obtain⟨i,hi⟩:=List.mem_iff_getElem?.1 hq
   exact (hk i q hi).2.2
theorem Zwl {fuel:Nat} {v:Value} {y:DataW H×List MemPlace} (h:DataW.trod enc Tryz.prog W 0 (fun _=>true) true fuel 42 [v]=some y) :
  ∃ (l:List Bnd) (ao:Option Addr) (n c:Nat),v = .slice ao n c∧n=l.length∧n≤c∧n≤9223372036854775807∧(∀ b∈l,NmL b.n)∧Zak Zz8 W ao l:=by
 obtain⟨ao,n,c,e4,hmc,hcm,hel⟩:=Zcx Tryz.underlying42 cB (by decide) h;have hlen:n≤9223372036854775807:=Nat.le_trans hmc (Nat.le_trans hcm (by decide));rcases hel with h0 | ⟨g,off,n',h1,h2,h3,h4⟩
 ·exact⟨[],ao,n,c,e4,h0,hmc,hlen,by simp,.inl rfl⟩
 ·obtain⟨l,hl,hk⟩:=Zef (α:=Bnd) n (fun i b=>(NmL b.n)∧Zay W g (off+i*2) (Zz8 b)) (fun i hi=>by
   obtain⟨cs,y,h5,h6,h7⟩:=h4 i hi;obtain⟨xs,n2,hn,-,hl,hxl,hf⟩:=DataW.trod_struct Tryz.underlying164 h7
   match cs,h5 with
   | [c0,c1],_ =>
    match xs,hxl with
    | [y0,y1],_ =>
     have f0:DataW.trod enc Tryz.prog W 0 (fun _=>true) true n2 9 (([c0,c1]:List Value).drop 0 |>.take (Tryz.prog.cellsOf 9))=some y0:=hf 0 _ rfl;have f1:DataW.trod enc Tryz.prog W 0 (fun _=>true) true n2 3 (([c0,c1]:List Value).drop 1 |>.take (Tryz.prog.cellsOf 3))=some y1:=hf 1 _ rfl;rw[cS] at f0;rw[cI] at f1;obtain⟨s0,e0,-,z0⟩:=DataW.trod_string Tryz.underlying9 (show DataW.trod enc Tryz.prog W 0 (fun _=>true) true n2 9 [c0]=some y0 from f0);obtain⟨k1,e1,-,-⟩:=DataW.trod_int Tryz.underlying3 (show DataW.trod enc Tryz.prog W 0 (fun _=>true) true n2 3 [c1]=some y1 from f1);simp only[List.cons.injEq,and_true] at e0 e1;subst e0 e1;obtain⟨l0,rfl,b0,g0⟩:=Zeo s0
     exact⟨⟨l0,k1⟩,⟨b0,by rw[g0];exact Nat.le_trans z0 (by decide)⟩,h6⟩)
  refine⟨l,ao,n,c,e4,hl.symm,hmc,hlen,fun b hb=>?_,.inr ⟨g,off,h1,h2,fun j u hj=>?_⟩⟩
  ·obtain⟨i,hi⟩:=List.mem_iff_getElem?.1 hb
   exact (hk i b hi).1
  ·have hjl:=(List.getElem?_eq_some_iff.1 hj).1
   rw[Zbz Zz8 2 Zly] at hjl
   have hi:j/2<l.length:=by omega
   have hb:=List.getElem?_eq_getElem hi
   have hjj:j=j/2*2+j%2:=by omega
   have h9:=(hk (j/2) _ hb).2 (j%2) u (by
    rw[← Zc4 Zz8 2 Zly l (j/2) (j%2) _ hb (Nat.mod_lt _ (by decide)),← hjj];exact hj)
   rwa [Nat.add_assoc,← hjj] at h9
theorem Zwm {fuel:Nat} {v:Value} {y:DataW H×List MemPlace} (h:DataW.trod enc Tryz.prog W 0 (fun _=>true) true fuel 24 [v]=some y) :
  ∃ (l:List Use) (ao:Option Addr) (n c:Nat),v = .slice ao n c∧n=l.length∧n≤c∧n≤9223372036854775807∧(∀ b∈l,True)∧Zak Zcj W ao l:=by
 obtain⟨ao,n,c,e4,hmc,hcm,hel⟩:=Zcx Tryz.underlying24 Z3k (by decide) h;have hlen:n≤9223372036854775807:=Nat.le_trans hmc (Nat.le_trans hcm (by decide));rcases hel with h0 | ⟨g,off,n',h1,h2,h3,h4⟩
 ·exact⟨[],ao,n,c,e4,h0,hmc,hlen,by simp,.inl rfl⟩
 ·obtain⟨l,hl,hk⟩:=Zef (α:=Use) n (fun i b=>(True)∧Zay W g (off+i*4) (Zcj b)) (fun i hi=>by
   obtain⟨cs,y,h5,h6,h7⟩:=h4 i hi;obtain⟨xs,n2,hn,-,hl,hxl,hf⟩:=DataW.trod_struct Tryz.underlying39 h7
   match cs,h5 with
   | [c0,c1,c2,c3],_ =>
    match xs,hxl with
    | [y0,y1,y2,y3],_ =>
     have f0:DataW.trod enc Tryz.prog W 0 (fun _=>true) true n2 3 (([c0,c1,c2,c3]:List Value).drop 0 |>.take (Tryz.prog.cellsOf 3))=some y0:=hf 0 _ rfl;have f1:DataW.trod enc Tryz.prog W 0 (fun _=>true) true n2 3 (([c0,c1,c2,c3]:List Value).drop 1 |>.take (Tryz.prog.cellsOf 3))=some y1:=hf 1 _ rfl;have f2:DataW.trod enc Tryz.prog W 0 (fun _=>true) true n2 3 (([c0,c1,c2,c3]:List Value).drop 2 |>.take (Tryz.prog.cellsOf 3))=some y2:=hf 2 _ rfl;have f3:DataW.trod enc Tryz.prog W 0 (fun _=>true) true n2 3 (([c0,c1,c2,c3]:List Value).drop 3 |>.take (Tryz.prog.cellsOf 3))=some y3:=hf 3 _ rfl;rw[cI] at f0;rw[cI] at f1;rw[cI] at f2;rw[cI] at f3;obtain⟨k0,e0,-,-⟩:=DataW.trod_int Tryz.underlying3 (show DataW.trod enc Tryz.prog W 0 (fun _=>true) true n2 3 [c0]=some y0 from f0);obtain⟨k1,e1,-,-⟩:=DataW.trod_int Tryz.underlying3 (show DataW.trod enc Tryz.prog W 0 (fun _=>true) true n2 3 [c1]=some y1 from f1);obtain⟨k2,e2,-,-⟩:=DataW.trod_int Tryz.underlying3 (show DataW.trod enc Tryz.prog W 0 (fun _=>true) true n2 3 [c2]=some y2 from f2);obtain⟨k3,e3,-,-⟩:=DataW.trod_int Tryz.underlying3 (show DataW.trod enc Tryz.prog W 0 (fun _=>true) true n2 3 [c3]=some y3 from f3);simp only[List.cons.injEq,and_true] at e0 e1 e2 e3;subst e0 e1 e2 e3
     exact⟨⟨k0,k1,k2,k3⟩,trivial,h6⟩)
  refine⟨l,ao,n,c,e4,hl.symm,hmc,hlen,fun b hb=>?_,.inr ⟨g,off,h1,h2,fun j u hj=>?_⟩⟩
  ·obtain⟨i,hi⟩:=List.mem_iff_getElem?.1 hb
   exact (hk i b hi).1
  ·have hjl:=(List.getElem?_eq_some_iff.1 hj).1
   rw[Zbz Zcj 4 Za3] at hjl
   have hi:j/4<l.length:=by omega
   have hb:=List.getElem?_eq_getElem hi
   have hjj:j=j/4*4+j%4:=by omega
   have h9:=(hk (j/4) _ hb).2 (j%4) u (by
    rw[← Zc4 Zcj 4 Za3 l (j/4) (j%4) _ hb (Nat.mod_lt _ (by decide)),← hjj];exact hj)
   rwa [Nat.add_assoc,← hjj] at h9
theorem Zwn {fuel:Nat} {v:Value} {y:DataW H×List MemPlace} (h:DataW.trod enc Tryz.prog W 0 (fun _=>true) true fuel 23 [v]=some y) :
  ∃ (l:List Mem) (ao:Option Addr) (n c:Nat),v = .slice ao n c∧n=l.length∧n≤c∧n≤9223372036854775807∧(∀ m∈l,(∀ b∈m.b,NmL b.n)∧m.b.length≤9223372036854775807∧m.t.length≤9223372036854775807)∧Zhr W l ao:=by
 obtain⟨ao,n,c,e4,hmc,hcm,hel⟩:=Zcx Tryz.underlying23 Z30 (by decide) h;have hlen:n≤9223372036854775807:=Nat.le_trans hmc (Nat.le_trans hcm (by decide));rcases hel with h0 | ⟨g,off,n',h1,h2,h3,h4⟩
 ·exact⟨[],ao,n,c,e4,h0,hmc,hlen,by simp,.inl rfl⟩
 ·obtain⟨l,hl,hk⟩:=Zef (α:=Mem) n (fun i m=>((∀ b∈m.b,NmL b.n)∧m.b.length≤9223372036854775807∧m.t.length≤9223372036854775807)∧∃ cs,Zta W m cs∧Zay W g (off+i*3) cs) (fun i hi=>by
   obtain⟨cs,y,h5,h6,h7⟩:=h4 i hi;obtain⟨xs,n2,hn,-,hl,hxl,hf⟩:=DataW.trod_struct Tryz.underlying44 h7
   match cs,h5 with
   | [c0,c1,c2],_ =>
    match xs,hxl with
    | [y0,y1,y2],_ =>
     have f0:DataW.trod enc Tryz.prog W 0 (fun _=>true) true n2 42 (([c0,c1,c2]:List Value).drop 0 |>.take (Tryz.prog.cellsOf 42))=some y0:=hf 0 _ rfl;have f1:DataW.trod enc Tryz.prog W 0 (fun _=>true) true n2 33 (([c0,c1,c2]:List Value).drop 1 |>.take (Tryz.prog.cellsOf 33))=some y1:=hf 1 _ rfl;have f2:DataW.trod enc Tryz.prog W 0 (fun _=>true) true n2 3 (([c0,c1,c2]:List Value).drop 2 |>.take (Tryz.prog.cellsOf 3))=some y2:=hf 2 _ rfl;rw[cLB] at f0;rw[cLI] at f1;rw[cI] at f2;obtain⟨bl,bo,bn,bc,e0,hb1,hb2,hb3,hb4,hb5⟩:=Zwl (show DataW.trod enc Tryz.prog W 0 (fun _=>true) true n2 42 [c0]=some y0 from f0);obtain⟨tl,ta,tn,tc,e1,ht1,ht2,ht3,ht4⟩:=Zwj (show DataW.trod enc Tryz.prog W 0 (fun _=>true) true n2 33 [c1]=some y1 from f1);obtain⟨k,e2,-,-⟩:=DataW.trod_int Tryz.underlying3 (show DataW.trod enc Tryz.prog W 0 (fun _=>true) true n2 3 [c2]=some y2 from f2);simp only[List.cons.injEq,and_true] at e2;subst e0 e1 e2 hb1 ht1;refine⟨⟨bl,tl,k⟩,⟨hb4,hb3,ht3⟩,_,⟨bo,bc,ta,tc,rfl,?_,ht4⟩,h6⟩;rcases hb5 with hb5 | ⟨g5,o5,q1,q2,q3⟩
     ·exact .inl hb5
     ·exact .inr ⟨g5,o5,q1,trivial,q2,q3⟩)
  refine⟨l,ao,n,c,e4,hl.symm,hmc,hlen,fun m hm=>?_,.inr ⟨g,off,h1,h2,fun i m hm=>(hk i m hm).2⟩⟩;obtain⟨i,hi⟩:=List.mem_iff_getElem?.1 hm;exact (hk i m hi).1
theorem Zzq {r:Reach} {b0:Nat} {v:Value} {d:DataW H} {p:List MemPlace} (hv:Value.okWide Tryz.prog W r b0 26 v) (h:DataW.Trod enc Tryz.prog W 0 (fun _=>true) true 26 v d p) :
  ∃ (c:Crw) (cs:List Value),v = .agg cs.toArray∧Zfu W c cs∧LenC c∧(∀ p∈c.qs,ByL p)∧(∀ m∈c.ms,∀ b∈m.b,NmL b.n):=by
 obtain⟨cs,rfl,hsz⟩:=okWide_struct Tryz.underlying26 hv;obtain⟨fuel,hf⟩:=h;have hcs:(Value.agg cs).cells=cs:=rfl;rw[hcs] at hf;obtain⟨xs,n2,hn,-,hl,hxl,hf⟩:=DataW.trod_struct Tryz.underlying26 hf
 have hl3:cs.toList.length=3:=by rw[hl];kernel_rfl
 obtain⟨l0⟩:=cs
 match l0,hl3 with
 | [c0,c1,c2],_ =>
  match xs,hxl with
  | [y0,y1,y2],_ =>
   have f0:DataW.trod enc Tryz.prog W 0 (fun _=>true) true n2 22 (([c0,c1,c2]:List Value).drop 0 |>.take (Tryz.prog.cellsOf 22))=some y0:=hf 0 _ rfl;have f1:DataW.trod enc Tryz.prog W 0 (fun _=>true) true n2 23 (([c0,c1,c2]:List Value).drop 1 |>.take (Tryz.prog.cellsOf 23))=some y1:=hf 1 _ rfl;have f2:DataW.trod enc Tryz.prog W 0 (fun _=>true) true n2 24 (([c0,c1,c2]:List Value).drop 2 |>.take (Tryz.prog.cellsOf 24))=some y2:=hf 2 _ rfl;rw[cLP] at f0;rw[cLM] at f1;rw[cLS] at f2;obtain⟨ql,qo,qn,qc,e0,hq1,hq2,hq3,hq4,hq5,hq6⟩:=Zwk (show DataW.trod enc Tryz.prog W 0 (fun _=>true) true n2 22 [c0]=some y0 from f0);obtain⟨ml,mo,mn,mc,e1,hm1,hm2,hm3,hm4,hm5⟩:=Zwn (show DataW.trod enc Tryz.prog W 0 (fun _=>true) true n2 23 [c1]=some y1 from f1);obtain⟨ul,uo,un,uc,e2,hu1,hu2,hu3,-,hu5⟩:=Zwm (show DataW.trod enc Tryz.prog W 0 (fun _=>true) true n2 24 [c2]=some y2 from f2);subst e0 e1 e2 hq1 hm1 hu1;exact⟨⟨ql,ml,ul⟩,_,rfl,⟨qo,qc,mo,mc,uo,uc,rfl,hq4,hm5,hu5,hu2⟩,⟨hq6,fun m hm=>(hm4 m hm).2,hq3,hm3,hu3⟩,hq5,fun m hm=>(hm4 m hm).1⟩
end
theorem Z1q {c:Crw} (hf:Z2r c=true) (hL:LenC c) (hb:∀ p∈c.qs,ByL p) (hm:∀ m∈c.ms,∀ b∈m.b,NmL b.n):CrwOk c∧c.us.length≤999∧c.ms.length≤65∧c.qs.length≤129:=by
 unfold Z2r at hf;simp only[Bool.and_eq_true,List.all_eq_true] at hf;obtain⟨⟨h1,h2⟩,h3⟩:=hf;unfold Zeq at h1;simp only[Bool.and_eq_true,Bool.or_eq_true,decide_eq_true_eq] at h1;refine⟨⟨fun p hp=>⟨hb p hp,?_⟩,fun m hmm=>⟨hm m hmm,?_,?_⟩,by omega,by omega,by omega⟩,by omega,by omega,by omega⟩
 ·have:=Z02 (h2 p hp);omega
 ·have:=h3 m hmm
  unfold Zwi at this;simp only[Bool.and_eq_true,decide_eq_true_eq] at this;omega
 ·have:=h3 m hmm
  unfold Zwi at this;simp only[Bool.and_eq_true,decide_eq_true_eq] at this;omega
end
section
open Go.RowKit Go.Sort Go.Maps
theorem Zwo (w:World) (c:Crw) (cs:List Value) (B:Nat) (u:Int) (ha:ArgC w c cs B) :
  Calls Tryz.prog 47 #[.agg cs.toArray,.int .i64 u] w fun e w'=>Below w.heap.size w w'∧∃ o cap,e = .returned (.slice o (Zol c u).length cap)∧Zak Zbe w' o ((Zol c u).map Int.ofNat):=by
 refine (Zyv w c cs B u ha).mono ?_;intro e w' h;unfold Zht at h;obtain⟨⟨o,cap,h1,h2⟩,hb⟩:=h;exact⟨hb,o,cap,h1,Zcq h2 rfl⟩
end
section
open Go.RowKit Go.Sort Go.Maps
def shr (c:Crw) (u:Int) (k:Nat):Nat:=Zne (Zar c (Zcc c (Zao c) u.toNat k))
def Zer (c:Crw) (u:Int):List Nat×Nat:=if (Zal c&&Zb8 u c.us.length)=true then (if (Zck (Zar c (Zao c))).2=0 then ((List.range c.ms.length).map (shr c u),0) else ([],(Zck (Zar c (Zao c))).2)) else ([],1)
def Zwp (w w':World) (l:List Nat) (n:Nat) (e:Ending):Prop:=Below w.heap.size w w'∧∃ o cap,e = .returned (.tuple #[.slice o l.length cap,.int .i64 (n:Int)])∧Zak Zbe w' o (l.map Int.ofNat)
theorem Zpx {T:Tbl} (h:(Zck T).2=0):∀ k,k<16→(Zdb T k).length≤12:=by
 intro k hk;unfold Zck at h
 split at h
 ·cases h
 ·rename_i h2
  rcases Nat.lt_or_ge 12 (Zdb T k).length with h3 | h3
  ·exact absurd (List.any_eq_true.2 ⟨k,List.mem_range.2 hk,by simpa using h3⟩) h2
  ·exact h3
theorem Zjs {α:Type} (f:Nat→α) (k:Nat):(List.range (k+1)).map f=(List.range k).map f++[f k]:=by rw[List.range_succ,List.map_append];rfl
theorem Zpy (w:World) (c:Crw) (cs:List Value) (B:Nat) (u:Int) (ha:ArgC w c cs B) :
  Calls Tryz.prog 43 #[.agg cs.toArray,.int .i64 u] w fun e w'=>Zwp w w' (Zer c u).1 (Zer c u).2 e:=by
 have HOP:=ħ (fun W (hW:Below w.heap.size w W)=>Zcb W c cs (ha.below hW).crw B (ha.below hW).tab ha.ok);have HNU:=ha.nu;have HRK:=ħ (fun (h:Zal c=true)=>Zap h (by omega));have HVP:=ħ (fun (h:Zal c=true)=>Zas h);have hnq0:=ha.ok.nq;have hnm0:=ha.ok.nm;have HPA:Hid (Zer c u=if (Zal c&&Zb8 u c.us.length)=true then (if (Zck (Zar c (Zao c))).2=0 then ((List.range c.ms.length).map (shr c u),0) else ([],(Zck (Zar c (Zao c))).2)) else ([],1)):=ħ rfl;generalize Zer c u=PA at *;have HIX:Hid (Zb8 u c.us.length=inB u 0 ((c.us.length:Int)-1)):=ħ rfl;have HIN:=ħ (fun h=>Zbp (u:=u) (n:=c.us.length) h);obtain⟨qo,qc,mo,mc,uo,uc,rfl,hq0,hm0,hu0,-⟩:=ha.crw;unfold Ztb at HOP;clear ha hq0 hm0 hu0;generalize hnq:c.qs.length=nq at *;generalize hnm:c.ms.length=nm at *;generalize hnu:c.us.length=nu at *;have HQE:=ħ hnq;have HME:=ħ hnm;have HUE:=ħ hnu;clear hnq hnm hnu;generalize hvc:Zal c=vc at *;have HVC:=ħ hvc;clear hvc;have X1:Hid (Zaf (w.alloc (.cells #[.slice qo nq qc,.slice mo nm mc,.slice uo nu uc] 26)) w.heap.size 26 [.slice qo nq qc,.slice mo nm mc,.slice uo nu uc]):=ħ (heap_alloc_new w _);have B1:=ħ ((Below.refl w.heap.size w).alloc (Nat.le_refl _) (.cells #[.slice qo nq qc,.slice mo nm mc,.slice uo nu uc] 26))
 go_enter Tryz.func43,Tryz.ntmps43
 go_upto_region 1 with (fail)
 generalize w.alloc (.cells #[.slice qo nq qc,.slice mo nm mc,.slice uo nu uc] 26)=w1 at *;have c0:=X1.o.cell 0 _ rfl;have c1:=X1.o.cell 1 _ rfl;have c2:=X1.o.cell 2 _ rfl;have HCL:=ħ (HOP.o w1 B1.o);clear HOP
 go_wp2_with fail
 refine HCL.o.mono ?_;intro e w2 hq;obtain⟨hres,b2⟩:=hq;have B2:=ħ (B1.o.trans (b2.mono B1.o.size));have X2:=ħ (X1.o.step b2);clear b2 c0 c1 c2 B1 X1 HCL
 cases vc with
 | false =>
  rw[if_neg (by decide)] at hres;subst hres;have HPN:Hid (PA=([],1)):=ħ (by rw[HPA.o];rfl);clear HPA
  go_wp2_with fail
  go_ret2
  rw[HPN.o];exact⟨B2.o,none,0,rfl,.inl rfl⟩
 | true =>
  rw[if_pos rfl] at hres;obtain⟨A,rfl,hR,-⟩:=hres;have HR:=ħ hR;have HOK:=ħ (HRK.o rfl)
  have hm64:nm≤64:=by exact (HVP.o rfl).2.1
  clear hR HRK;have c2:=X2.o.cell 2 _ rfl;have HWI:=ħ (Zaz u 0 ((nu:Int)-1) w2);rw[← HIX.o] at HWI;have ew:IntKind.i64.wrap ((nu:Int)-1)=(nu:Int)-1:=IntWalk.i64_in _ (by omega);generalize hib:Zb8 u nu=ib at *;have HIB:=ħ hib;clear hib
  go_wp2_with fail
  refine HWI.o.mono ?_;rintro e w3 ⟨rfl,rfl⟩;clear HWI c2
  cases ib with
  | false =>
   have HPN:Hid (PA=([],1)):=ħ (by rw[HPA.o];rfl);clear HPA
   go_wp2_with fail
   go_ret2
   rw[HPN.o];exact⟨B2.o,none,0,rfl,.inl rfl⟩
  | true =>
   obtain⟨un,rfl,hun⟩:=HIN.o rfl;have HPN:Hid (PA=if (Zck (Zar c (Zao c))).2=0 then ((List.range nm).map (shr c (un:Int)),0) else ([],(Zck (Zar c (Zao c))).2)):=ħ (by rw[HPA.o];rfl);clear HPA;have HPO:=ħ (Zi1 w2 A c (Zaj c) (Zao c) HR.o HOK.o);have HGR:=ħ (fun h=>Zpx (T:=Zar c (Zao c)) h)
   have HFX:Hid (∀ k,k<nm→∀ W,Below w2.heap.size w2 W→Calls Tryz.prog 84 #[.pointer (some ⟨A,0,none⟩),.int .i64 (un:Int),.int .i64 (k:Int)] W fun e w'=>∃ X,e = .returned (.pointer (some ⟨X,0,none⟩))∧Zbb w' X c (Zaj c) (Zcc c (Zao c) un k)∧W.heap.size≤X∧Below W.heap.size W w'):=ħ (fun k hk W hW =>
    Zl3 W A c (Zaj c) (Zao c) un k (HR.o.below hW) (by rw[HOK.o.len,HUE.o];exact hun) (by rw[HME.o];exact hk) HOK.o.row (by rw[HOK.o.len,HUE.o];omega) (by rw[HME.o];omega))
   have HCT:=ħ (fun k W X (hX:Zbb W X c (Zaj c) (Zcc c (Zao c) un k)) (hg:∀ k,k<16→(Zdb (Zar c (Zao c)) k).length≤12)=>Zoo W X c (Zaj c) (Zcc c (Zao c) un k) hX (HOK.o.fix un k) hg);have HSH:Hid (∀ k,Zne (Zar c (Zcc c (Zao c) un k))=shr c (un:Int) k):=ħ (fun k=>rfl)
   have HSL:Hid (∀ k,shr c (un:Int) k≤1152921504606846977):=ħ (fun k=>by
    unfold shr
    have hwn:∀ v,v<c.us.length→(Zar c (Zcc c (Zao c) un k)).win v<16:=fun v hv=>by
     obtain⟨g1,g2,g3⟩:=Zg9 (HOK.o.fix un k) hv;omega
    rw[Zo8 _ hwn]
    exact Nat.min_le_left _ _)
   generalize (Zck (Zar c (Zao c))).1=CD at *;obtain⟨CE,hce⟩:∃ x,(Zck (Zar c (Zao c))).2=x:=⟨_,rfl⟩;rw[hce] at HPO HPN HGR;clear hce;generalize shr c (un:Int)=sf at *
   go_wp2_with fail
   refine HPO.o.mono ?_;rintro e w3 ⟨rfl,b3⟩;have B3:=ħ (B2.o.trans (b3.mono B2.o.size));have X3:=ħ (X2.o.step b3);have L3:=ħ b3;clear b3 HPO X2;by_cases hc0:CE=0
   ·subst hc0
    have HPN2:Hid (PA=((List.range nm).map sf,0)):=ħ (by rw[HPN.o,if_pos rfl]);have HGG:=ħ (HGR.o rfl);have c1:=X3.o.cell 1 _ rfl;clear HPN HGR
    go_upto_region 9 with (fail)
    clear c1 X3
    go_wp2_with fail
    go_loopw [39,10] (fun kv ov wr=>∃ (k:Nat) (o:Option Addr) (cap:Nat),kv = .int .i64 k∧ov = .slice o k cap∧k≤nm∧Hid (OwnK wr w2.heap.size 1 k cap (Zau ((List.range k).map sf)) o)∧Hid (Below w2.heap.size w2 wr)) (fun k _ _=>(nm-intOf k).toNat)
    case atStart=>exact⟨0,none,0,rfl,rfl,by omega,ħ (.nil rfl rfl rfl),L3⟩
    case round =>
     clear B3 L3;obtain⟨k,o,cap,rfl,rfl,hk,HO,L4⟩:=hrel;have e2:IntKind.i64.wrap ((k:Int)+1)=((k+1:Nat):Int):=IntWalk.i64_in _ (by omega);by_cases hkn:k<nm
     ·have kk:(k:Int)<nm:=by omega
      have HC1:=ħ (HFX.o k hkn wr L4.o);have HNX:=ħ (Zjs sf k);have hsl:=HSL.o k
      go_wp2_with fail
      refine HC1.o.mono ?_;clear HC1;intro e w5 hq;obtain⟨X,rfl,hX,-,hb5⟩:=hq;have HB5:=ħ hb5;have HCX:=ħ (HCT.o k w5 X hX HGG.o);rw[HSH.o k] at HCX;clear hX hb5;obtain⟨sv,hsv⟩:∃ x,sf k=x:=⟨_,rfl⟩;rw[hsv] at HCX HNX hsl;clear hsv
      go_wp2_with fail
      refine HCX.o.mono ?_;clear HCX;rintro e w6 ⟨rfl,hb6⟩;have HB6:=ħ (HB5.o.trans (hb6.mono HB5.o.size));have O6:=ħ (HO.o.below HB6.o);have L6:=ħ (L4.o.trans (HB6.o.mono L4.o.size));clear hb6 HB5 HB6 HO L4
      go_upto_region 12 with (at_builtin;refine Zdu 33 3 (.int .i64 0) 1 8 Tryz.underlying33 Zbf rfl (by omega) (by omega) w6 w2.heap.size rfl (.tmp 42) (.tmp 48) rfl o cap k (Zau ((List.range k).map sf)) ?q1 O6.o L6.o.size 1 1 #[.int .i64 (sv:Int)] 3 ?q2 rfl (by omega) ?q3 ?q4 ?_;(case q1=>rfl);(case q2=>rfl);(case q3=>simp[Value.oneCell']);(case q4=>omega);intro g5 off5 c5 wa o8 gr8 b8 or8;have O8:=ħ o8;have L8:=ħ (L6.o.trans b8);clear o8 gr8 b8 or8)
      go_wp2_with fail
      go_roundw
      case rel=>exact⟨k+1,_,_,by go_num,rfl,by omega,ħ (by rw[HNX.o,← Zcp];exact O8.o),L8⟩
      case measure=>simp only[intOf];omega
     ·have kk:¬ (k:Int)<nm:=by omega
      obtain rfl:nm=k:=by omega
      go_wp2_with fail
      go_ret2
      rw[HPN2.o];exact⟨B2.o.trans (L4.o.mono B2.o.size),o,cap,by rw[List.length_map,List.length_range];rfl,Zcq HO.o (by rw[List.length_map,List.length_range])⟩
   ·have hcb:(((CE:Nat):Int) != 0)=true:=by simp;omega
    have HPN2:Hid (PA=([],CE)):=ħ (by rw[HPN.o,if_neg hc0]);clear HPN
    go_wp2_with fail
    go_ret2
    rw[HPN2.o];exact⟨B3.o,none,0,rfl,.inl rfl⟩
end
section
open Go.RowKit Go.Sort Go.Maps
theorem Zaf.off {w:World} {g:Nat} {t:TypeId} {cs:List Value} (h:Zaf w g t cs) {p:Addr} (hp:g≠p.block) (u:Value):Zaf (w.setCell p u) g t cs:=by
 unfold Zaf;rw[Below.heap_setCell _ _ _ _ hp];exact h
theorem Z2s {w:World} {c:Crw} {qo mo uo:Option Addr} {qn mn un qc mc uc:Nat} (h:Zfu w c [.slice qo qn qc,.slice mo mn mc,.slice uo un uc]):Zak Zcj w uo c.us∧un=c.us.length∧un≤uc:=by
 obtain⟨qo',qc',mo',mc',uo',uc',he,h1,h2,h3,h4⟩:=h;simp only[List.cons.injEq,Value.slice.injEq,and_true] at he;obtain⟨⟨rfl,rfl,rfl⟩,⟨rfl,rfl,rfl⟩,rfl,rfl,rfl⟩:=he;exact⟨h3,rfl,h4⟩
theorem Zwq {c:Crw} {C:List (List Bool)} (hok:ReckOk c C):∀ v,v<(Zar c C).U→(Zar c C).win v<16:=fun v hv=>by
 obtain⟨g1,g2,g3⟩:=Zg9 hok hv;omega
theorem Z2t {c:Crw} {u m:Nat} (hok:ReckOk c (Zao c)) (hu:u<c.us.length) (hm:m<c.ms.length):Zje (Zar c (Zcc c (Zao c) u m))≤Zje (Zar c (Zao c)) :=
 Ztp rfl (Nat.le_refl _) (fun v k hv hk h=>by
  rw[Zit hok hu v k hk] at h;by_cases e:v=u
  ·rw[if_pos e,Bool.and_eq_true,decide_eq_true_eq] at h
   rw[e,h.2];exact h.1
  ·rw[if_neg e] at h;exact h) (fun v _=>rfl) (fun m w _=>Nat.le_refl _)
theorem Zrj {T:Tbl} (hw:∀ v,v<T.U→T.win v<16) (h:(Zck T).2=0):Zje T≤1152921504606846976∧Zck T=(Zje T,0):=by
 have hm:Zbi=1152921504606846977:=rfl;unfold Zck at h ⊢
 split at h
 ·cases h
 ·rename_i h2
  rw[if_neg h2];rw[Zo8 T hw,hm] at *
  split at h
  ·cases h
  ·rename_i h3
   rw[if_neg h3];refine⟨by omega,?_⟩;rw[Nat.min_eq_right (by omega)]
theorem Z1r {c:Crw} {u:Int} {k:Nat} (hok:ReckOk c (Zao c)) (hu:u.toNat<c.us.length) (hk:k<c.ms.length) (h:(Zck (Zar c (Zao c))).2=0):shr c u k=Zje (Zar c (Zcc c (Zao c) u.toNat k)):=by
 have h1:=(Zrj (Zwq hok) h).1;have h2:=Z2t hok hu hk;have hm:Zbi=1152921504606846977:=rfl;unfold shr;rw[Zo8 _ (Zwq (hok.fix _ _)),hm,Nat.min_eq_right (by omega)]
end
section
open Go.RowKit Go.Sort Go.Maps
theorem Zot (c:Crw):∀ (n i:Nat) (C:List (List Bool)),Zvm c i (List.replicate n (-1)) C=some C
 | 0,i,C=>rfl
 | n+1,i,C=>by
  rw[List.replicate_succ];show (if inB (-1) (-1) ((c.ms.length:Int)-1)=true then Zvm c (i+1) (List.replicate n (-1)) (if (-1:Int) = -1 then C else Zcc c C i (-1:Int).toNat) else none)=some C;rw[if_pos (by unfold inB;rw[Bool.and_eq_true,decide_eq_true_eq,decide_eq_true_eq];omega),if_pos rfl];exact Zot c n (i+1) C
end
section
open Go.RowKit Go.Sort Go.Maps
def Zdd (M:Nat):Nat→Nat→List Nat
 | 0,_=>[]
 | U+1,n=>n/M^U%M::Zdd M U n
theorem Zbv (M n:Nat):∀ U,(Zdd M U n).length=U
 | 0=>rfl
 | U+1=>by show (_::Zdd M U n).length=_;rw[List.length_cons,Zbv M n U]
theorem Zpz {M n:Nat} (hM:0<M):∀ U,∀ x∈Zdd M U n,x<M
 | 0,x,h=>by cases h
 | U+1,x,h=>by
  rcases List.mem_cons.1 h with h | h
  ·rw[h];exact Nat.mod_lt _ hM
  ·exact Zpz hM U x h
theorem Zwr (M n:Nat):∀ U i,i<U→(Zdd M U n)[i]?=some (n/M^(U-1-i)%M)
 | 0,i,h=>by omega
 | U+1,0,h=>rfl
 | U+1,i+1,h=>by
  show (Zdd M U n)[i]?=_;rw[Zwr M n U i (by omega),show U-1-i=U+1-1-(i+1) by omega]
theorem Zh3 (M n:Nat):∀ U k,U≤k→Zdd M U (n%M^k)=Zdd M U n
 | 0,k,h=>rfl
 | U+1,k,h=>by
  show (n%M^k)/M^U%M::Zdd M U (n%M^k)=n/M^U%M::Zdd M U n;rw[Zh3 M n U k (by omega)]
  have e:M^k=M^U*M^(k-U):=by rw[← Nat.pow_add,show U+(k-U)=k by omega]
  rw[e,Nat.mod_mul_right_div_self,Nat.mod_mod_of_dvd _ (show M∣M^(k-U) from ⟨M^(k-U-1),by rw[← Nat.pow_succ'];exact congrArg (fun z=>M^z) (by omega)⟩)]
def Zmk (M:Nat):List Nat→Nat
 | []=>0
 | x::l=>x*M^l.length+Zmk M l
theorem Zml {M:Nat}:∀ l:List Nat,(∀ x∈l,x<M)→Zmk M l<M^l.length
 | [],h=>by show 0<1;omega
 | x::l,h=>by
  have h1:=h x (List.mem_cons_self ..);have h2:=Zml l (fun y hy=>h y (List.mem_cons_of_mem _ hy));show x*M^l.length+Zmk M l<M^(l.length+1);rw[Nat.pow_succ'];have h3:(x+1)*M^l.length≤M*M^l.length:=Nat.mul_le_mul_right _ h1;rw[Nat.add_mul,Nat.one_mul] at h3;omega
theorem Zrk (M:Nat):∀ l:List Nat,(∀ x∈l,x<M)→Zdd M l.length (Zmk M l)=l
 | [],h=>rfl
 | x::l,h=>by
  have h1:=h x (List.mem_cons_self ..)
  have hr:=fun y hy=>h y (List.mem_cons_of_mem _ hy)
  have h2:=Zml l hr;have h0:0<M^l.length:=Nat.lt_of_le_of_lt (Nat.zero_le _) h2;show (x*M^l.length+Zmk M l)/M^l.length%M::Zdd M l.length (x*M^l.length+Zmk M l)=x::l
  have e1:(x*M^l.length+Zmk M l)/M^l.length=x:=by
   rw[Nat.mul_comm,Nat.mul_add_div h0,Nat.div_eq_of_lt h2,Nat.add_zero]
  have e2:(x*M^l.length+Zmk M l)%M^l.length=Zmk M l:=by
   rw[Nat.mul_comm,Nat.mul_add_mod,Nat.mod_eq_of_lt h2]
  rw[e1,Nat.mod_eq_of_lt h1,← Zh3 M _ l.length l.length (Nat.le_refl _),e2,Zrk M l hr]
theorem Zmm {M:Nat} (hM:0<M):∀ U n,n<M^U→Zmk M (Zdd M U n)=n
 | 0,n,h=>by
  have:n<1:=h;show 0=n;omega
 | U+1,n,h=>by
  have h0:0<M^U:=Nat.pow_pos hM
  have h1:n/M^U<M:=by rw[Nat.div_lt_iff_lt_mul h0,← Nat.pow_succ'];exact h
  show n/M^U%M*M^(Zdd M U n).length+Zmk M (Zdd M U n)=n;rw[Zbv,Nat.mod_eq_of_lt h1,← Zh3 M n U U (Nat.le_refl _),Zmm hM U _ (Nat.mod_lt _ h0),Nat.mul_comm];exact Nat.div_add_mod n _
theorem Zws {M:Nat}:∀ (l l':List Nat),l.length=l'.length→(∀ x∈l,x<M)→(∃ k,k<l.length∧(∀ i,i<k→l'.getD i 0=l.getD i 0)∧l.getD k 0<l'.getD k 0)→Zmk M l<Zmk M l'
 | [],l',_,_,⟨k,hk,_⟩=>by cases hk
 | x::l,[],h,_,_=>by cases h
 | x::l,x'::l',h,hlt,⟨k,hk,he,hx⟩=>by
  have hl:l.length=l'.length:=Nat.succ.inj h;have h1:=Zml l (fun y hy=>hlt y (List.mem_cons_of_mem _ hy));show x*M^l.length+Zmk M l<x'*M^l'.length+Zmk M l';rw[← hl]
  cases k with
  | zero =>
   have hx:x<x':=hx;have h3:(x+1)*M^l.length≤x'*M^l.length:=Nat.mul_le_mul_right _ hx;rw[Nat.add_mul,Nat.one_mul] at h3;omega
  | succ k =>
   have e0:x'=x:=he 0 (by omega);subst e0;have:=Zws l l' hl (fun y hy=>hlt y (List.mem_cons_of_mem _ hy)) ⟨k,Nat.lt_of_succ_lt_succ hk,fun i hi=>he (i+1) (by omega),hx⟩;omega
theorem Zwt {α β:Type} (f:α→List β) (K:Nat) (hK:∀ x,(f x).length=K) (h0:0<K):∀ (l:List α) (n:Nat) (x:α),l[n/K]?=some x→(l.flatMap f)[n]?=(f x)[n%K]?
 | [],n,x,h=>by cases h
 | y::l,n,x,h=>by
  rw[List.flatMap_cons];by_cases hn:n<K
  ·rw[Nat.div_eq_of_lt hn] at h
   obtain rfl:=Option.some.inj h;rw[List.getElem?_append_left (by rw[hK];exact hn),Nat.mod_eq_of_lt hn]
  ·obtain⟨r,rfl⟩:∃ r,n=r+K:=⟨n-K,by omega⟩
   rw[Nat.add_div_right _ h0,List.getElem?_cons_succ] at h;rw[List.getElem?_append_right (by rw[hK];omega),hK,Nat.add_sub_cancel,Nat.add_mod_right];exact Zwt f K hK h0 l r x h
theorem Zou {M:Nat} (hM:0<M):∀ U n,n<M^U→(Zbl M U)[n]?=some (Zdd M U n)
 | 0,n,h=>by
  have:n<1:=h
  obtain rfl:n=0:=by omega
  rfl
 | U+1,n,h=>by
  have h0:0<M^U:=Nat.pow_pos hM
  have h1:n/M^U<M:=by rw[Nat.div_lt_iff_lt_mul h0,← Nat.pow_succ'];exact h
  show ((List.range M).flatMap (fun m=>(Zbl M U).map (fun l=>m::l)))[n]?=_;rw[Zwt (fun m=>(Zbl M U).map (fun l=>m::l)) (M^U) (fun x=>by rw[List.length_map,Zeb]) h0 (List.range M) n (n/M^U) (List.getElem?_range h1)];rw[List.getElem?_map,Zou hM U _ (Nat.mod_lt _ h0)];show some (n/M^U::Zdd M U (n%M^U))=some (n/M^U%M::Zdd M U n);rw[Nat.mod_eq_of_lt h1,Zh3 M n U U (Nat.le_refl _)]
theorem Zrl {M:Nat} (hM:0<M) (U n:Nat):Zdd M U n∈Zbl M U:=(Zb2 _ _).2 ⟨Zbv M n U,Zpz hM U⟩
def Ztd (T:Tbl) (p:List Nat→Bool) (k:Nat):Nat:=((Zbl T.M T.U).drop k).countP p
theorem Zrm (T:Tbl) (p:List Nat→Bool):Ztd T p (T.M^T.U)=0:=by
 unfold Ztd;rw[List.drop_eq_nil_of_le (by rw[Zeb];exact Nat.le_refl _)];rfl
theorem Zov {T:Tbl} (hM:0<T.M) (p:List Nat→Bool) {k:Nat} (hk:k<T.M^T.U):Ztd T p k=Ztd T p (k+1)+if p (Zdd T.M T.U k)=true then 1 else 0:=by
 unfold Ztd
 have h1:k<(Zbl T.M T.U).length:=by rw[Zeb];exact hk
 have h2:=Zou hM T.U k hk;rw[List.getElem?_eq_getElem h1] at h2;rw[List.drop_eq_getElem_cons h1,List.countP_cons,Option.some.inj h2]
theorem Zwu (T:Tbl) (p:List Nat→Bool) (k:Nat):Ztd T p k≤T.M^T.U:=by
 unfold Ztd;refine Nat.le_trans List.countP_le_length ?_;rw[List.length_drop,Zeb];omega
def Zwv (T:Tbl) (k:Nat) (f:Int):Prop:=(f = -1∧∀ j,k≤j→j<T.M^T.U→Zln T (Zdd T.M T.U j)=false)∨∃ g:Nat,f=(g:Int)∧k≤g∧g<T.M^T.U∧Zln T (Zdd T.M T.U g)=true∧∀ j,k≤j→j<g→Zln T (Zdd T.M T.U j)=false
theorem Zwv.start (T:Tbl):Zwv T (T.M^T.U) (-1):=.inl ⟨rfl,fun j h1 h2=>by omega⟩
theorem Zwv.hit {T:Tbl} {k:Nat} (hk:k<T.M^T.U) (h:Zln T (Zdd T.M T.U k)=true):Zwv T k (k:Int):=.inr ⟨k,rfl,Nat.le_refl _,hk,h,fun j h1 h2=>by omega⟩
theorem Zwv.miss {T:Tbl} {k:Nat} {f:Int} (h:Zwv T (k+1) f) (hl:Zln T (Zdd T.M T.U k)=false):Zwv T k f:=by
 rcases h with ⟨rfl,h⟩ | ⟨g,rfl,h1,h2,h3,h4⟩
 ·refine .inl ⟨rfl,fun j h1 h2=>?_⟩
  rcases Nat.lt_or_ge k j with h5 | h5
  ·exact h j h5 h2
  ·obtain rfl:j=k:=by omega
   exact hl
 ·refine .inr ⟨g,rfl,by omega,h2,h3,fun j h5 h6=>?_⟩
  rcases Nat.lt_or_ge k j with h7 | h7
  ·exact h4 j h7 h6
  ·obtain rfl:j=k:=by omega
   exact hl
theorem Zzr {T:Tbl} (hM:0<T.M) {f:Int} (hf:Zwv T 0 f) {a:List Nat} (hl:a.length=T.U) (ha:Legal T (aOf a)) (hx:∀ b,Legal T b→Z3b 0 T.U a b):∃ g:Nat,f=(g:Int)∧g<T.M^T.U∧Zdd T.M T.U g=a:=by
 have hmem:∀ x∈a,x<T.M:=fun x hx=>by
  obtain⟨i,hi,rfl⟩:=List.mem_iff_getElem.1 hx;have:=ha.mem i (by rw[← hl];exact hi);unfold aOf at this
  rwa [List.getD_eq_getElem?_getD,List.getElem?_eq_getElem hi] at this
 have hin:a∈Zbl T.M T.U:=(Zb2 _ _).2 ⟨hl,hmem⟩;have hv:=Zml a hmem;rw[hl] at hv
 have hd:Zdd T.M T.U (Zmk T.M a)=a:=by rw[← hl];exact Zrk T.M a hmem
 have hleg:Zln T a=true:=(Zc6 hin).2 ha;rcases hf with ⟨rfl,h⟩ | ⟨g,rfl,-,h2,h3,h4⟩
 ·have:=h (Zmk T.M a) (Nat.zero_le _) hv
  rw[hd,hleg] at this;cases this
 ·refine⟨g,rfl,h2,?_⟩
  have hg:=Zrl hM T.U g;have hgl:=hx _ ((Zc6 hg).1 h3)
  have e:Zmk T.M a=g:=by
   rcases Nat.lt_or_ge (Zmk T.M a) g with h5 | h5
   ·have:=h4 _ (Nat.zero_le _) h5
    rw[hd,hleg] at this;cases this
   ·rcases hgl with h6 | ⟨k,h6,h7,h8⟩
    ·have:Zdd T.M T.U g=a:=by
      apply List.ext_getElem?;intro i;by_cases hi:i<T.U
      ·have:=h6 i hi
       unfold aOf at this;rw[Nat.zero_add,List.getD_eq_getElem?_getD,List.getD_eq_getElem?_getD,List.getElem?_eq_getElem (by rw[Zbv];exact hi),List.getElem?_eq_getElem (by rw[hl];exact hi)] at this;rw[List.getElem?_eq_getElem (by rw[Zbv];exact hi),List.getElem?_eq_getElem (by rw[hl];exact hi)];exact congrArg some this
      ·rw[List.getElem?_eq_none (by rw[Zbv];omega),List.getElem?_eq_none (by omega)]
     rw[← this,Zmm hM T.U g h2]
    ·have h9:=Zws (M:=T.M) a (Zdd T.M T.U g) (by rw[Zbv,hl]) hmem ⟨k,by rw[hl];exact h6,fun i hi=>by
      have:=h7 i hi
      rwa [Nat.zero_add] at this,by rwa [Nat.zero_add] at h8⟩
     rw[Zmm hM T.U g h2] at h9;omega
  rw[← e,hd]
def Z11 (T:Tbl) (l:List Nat):Bool:=(List.range l.length).all (fun i=>T.can i (l.getD i 0)&&decide ((List.range l.length).countP (fun k=>l.getD k 0==l.getD i 0&&T.win k==T.win i)≤T.cap (l.getD i 0) (T.win i)))
theorem Z1s {T:Tbl} {l:List Nat} (hl:l∈Zbl T.M T.U):Z11 T l=Zln T l:=by
 obtain⟨h1,h2⟩:=(Zb2 T.U l).1 hl
 have hm:∀ i,i<T.U→l.getD i 0<T.M:=fun i hi=>h2 _ (by
  rw[List.getD_eq_getElem?_getD,List.getElem?_eq_getElem (by omega)]
  exact List.getElem_mem _)
 have hleg:Zln T l=true↔Legal T (aOf l):=Zc6 hl;rw[Bool.eq_iff_iff,hleg];unfold Z11;rw[h1,List.all_eq_true];constructor
 ·intro h
  have hi:∀ i,i<T.U→T.can i (l.getD i 0)=true∧Zfx T (aOf l) (l.getD i 0) (T.win i)≤T.cap (l.getD i 0) (T.win i):=fun i hi=>by
   have:=h i (List.mem_range.2 hi);rw[Bool.and_eq_true,decide_eq_true_eq] at this;exact this
  refine⟨hm,fun i h3=>(hi i h3).1,fun m w=>?_⟩;by_cases he:∃ u,u<T.U∧l.getD u 0=m∧T.win u=w
  ·obtain⟨u,h3,rfl,rfl⟩:=he
   exact (hi u h3).2
  ·have:Zfx T (aOf l) m w=0:=by
    unfold Zfx;rw[List.countP_eq_zero];intro u hu hx;simp only[Bool.and_eq_true,beq_iff_eq] at hx;exact he ⟨u,List.mem_range.1 hu,hx.1,hx.2⟩
   rw[this];exact Nat.zero_le _
 ·intro h i hi
  have hi:=List.mem_range.1 hi;rw[Bool.and_eq_true,decide_eq_true_eq];exact⟨h.can i hi,h.few _ _⟩
theorem Zzs {c:Crw} (hv:Zal c=true) (hok:ReckOk c (Zao c)) {l:List Nat} (hl:l∈Zbl c.ms.length c.us.length):Zmd c (l.map Int.ofNat)=Zln (Zar c (Zao c)) l:=by
 obtain⟨h1,h2⟩:=(Zb2 _ l).1 hl;have hleg:Zln (Zar c (Zao c)) l=true↔Legal (Zar c (Zao c)) (aOf l):=Zc6 (T:=Zar c (Zao c)) hl
 have hd:∀ i,(l.map Int.ofNat).getD i 0=((l.getD i 0:Nat):Int):=fun i=>by
  rw[List.getD_eq_getElem?_getD,List.getElem?_map,List.getD_eq_getElem?_getD];cases l[i]?<;>rfl
 rw[Bool.eq_iff_iff,hleg,Zy4 hv hok];constructor
 ·rintro⟨-,-,h⟩
  exact Zfo (fun u hu=>by rw[hd];rfl) h
 ·intro h
  refine⟨by rw[List.length_map];exact h1,fun i _=>by rw[hd];omega,Zfo (fun u hu=>by rw[hd];rfl) h⟩
def shE (T:Tbl) (k i m:Nat):Nat:=Ztd T (fun l=>Zln T l&&l.getD i 0==m) k
theorem Zww {T:Tbl} {u m:Nat} (hu:u<T.U):shE T 0 u m=Zje (T.fixT u m):=by
 rw[Ztq hu];unfold shE Ztd;rw[List.drop_zero];rfl
theorem Zrn (T:Tbl):Ztd T (Zln T) 0=Zje T:=by
 rw[Zgt];unfold Ztd;rw[List.drop_zero]
theorem Z1t {c:Crw} {u m:Nat} (hok:ReckOk c (Zao c)) (hu:u<c.us.length) (hm:m<c.ms.length) (h:(Zck (Zar c (Zao c))).2=0):shE (Zar c (Zao c)) 0 u m=shr c (u:Int) m:=by
 rw[Zww hu,Z1r (u:=(u:Int)) hok (by exact hu) hm h]
 have e:Zje (Zar c (Zcc c (Zao c) u m))=Zje ((Zar c (Zao c)).fixT u m):=Zxl rfl rfl (fun v k hv hk=>by
  show (Zar c (Zcc c (Zao c) u m)).can v k=_
  rw[Zit hok hu v k hk];rfl) (fun v _=>rfl) (fun m w _=>rfl)
 exact e.symm
theorem Z1u {c:Crw} {u m:Nat} (hok:ReckOk c (Zao c)) (hu:u<c.us.length) (hm:m<c.ms.length):decide (0<shE (Zar c (Zao c)) 0 u m)=Zjr c (Zao c) u m:=by
 rw[Zww hu,Bool.eq_iff_iff,decide_eq_true_eq,Zqc,Zl6 hok hu hm];constructor
 ·rintro⟨a,h⟩
  obtain⟨h1,h2⟩:=(Zgv hu a).1 h;exact⟨a,h1,h2⟩
 ·rintro⟨a,h1,h2⟩
  exact⟨a,(Zgv hu a).2 ⟨h1,h2⟩⟩
end
section
open Go.RowKit Go.Sort Go.Maps
theorem Zi7 {w:World} {c:Crw} {cs:List Value} (h:Zfu w c cs):∃ qo qc mo mc uo uc,cs=[.slice qo c.qs.length qc,.slice mo c.ms.length mc,.slice uo c.us.length uc]∧Zhr w c.ms mo∧Zak Zcj w uo c.us:=by
 obtain⟨qo,qc,mo,mc,uo,uc,h1,h2,h3,h4,-⟩:=h;exact⟨qo,qc,mo,mc,uo,uc,h1,h3,h4⟩
def alF (M:Nat):Nat→Nat→Nat
 | n,0=>n
 | n,k+1=>if n≤1500 then alF M (n*M) k else n
theorem Zwx (M:Nat):∀ k n,alF M n k≤1500→alF M n k=n*M^k
 | 0,n,h=>by show n=n*1;omega
 | k+1,n,h=>by
  unfold alF at h ⊢;by_cases e:n≤1500
  ·rw[if_pos e] at h ⊢
   rw[Zwx M k _ h,Nat.pow_succ',Nat.mul_assoc]
  ·rw[if_neg e] at h;omega
theorem Z1v (M:Nat):∀ k n,¬ n≤1500→alF M n k=n
 | 0,n,h=>rfl
 | k+1,n,h=>by unfold alF;rw[if_neg h]
theorem Zzt (M k n:Nat) (h:n≤1500):alF M n (k+1)=alF M (n*M) k:=by
 show (if n≤1500 then _ else _)=_;rw[if_pos h]
theorem Zzu (w:World) (c:Crw) (cs:List Value) (hc:Zfu w c cs) (hu:c.us.length≤999) (hm:c.ms.length≤1000) :
  Calls Tryz.prog 64 #[.agg cs.toArray] w fun e w'=>e = .returned (.int .i64 ((alF c.ms.length 1 c.us.length:Nat):Int))∧Below w.heap.size w w':=by
 obtain⟨qo,qc,mo,mc,uo,uc,rfl,-,-⟩:=Zi7 hc;clear hc;generalize c.qs.length=qn at *;generalize c.ms.length=mn at *;generalize c.us.length=un at *;have B1:=ħ ((Below.refl w.heap.size w).alloc (Nat.le_refl _) (.cells #[.slice qo qn qc,.slice mo mn mc,.slice uo un uc] 26));have X1:Hid (Zaf (w.alloc (.cells #[.slice qo qn qc,.slice mo mn mc,.slice uo un uc] 26)) w.heap.size 26 [.slice qo qn qc,.slice mo mn mc,.slice uo un uc]):=ħ (heap_alloc_new w _);obtain⟨R,hR⟩:∃ R,alF mn 1 un=R:=⟨_,rfl⟩;rw[hR];have HR:=ħ hR;clear hR
 go_enter Tryz.func64,Tryz.ntmps64
 go_upto_region 1 with (fail)
 generalize w.alloc (.cells #[.slice qo qn qc,.slice mo mn mc,.slice uo un uc] 26)=w1 at *;have c1:=X1.o.cell 1 _ rfl;have c2:=X1.o.cell 2 _ rfl
 go_upto_region 3 with (fail)
 go_loopw [3,4] (fun nv iv wr=>∃ (i n:Nat),iv = .int .i64 i∧nv = .int .i64 n∧i≤un∧n≤1500000∧Hid (alF mn n (un-i)=R)∧wr=w1) (fun _ i _=>(un-intOf i).toNat)
 case atStart=>exact⟨0,1,rfl,rfl,by omega,by omega,ħ HR.o,rfl⟩
 case round =>
  obtain⟨i,n,rfl,rfl,hi,hn,hr,rfl⟩:=hrel;have e2:IntKind.i64.wrap ((i:Int)+1)=((i+1:Nat):Int):=IntWalk.i64_in _ (by omega);by_cases hin:i<un
  ·have ii:(i:Int)<un:=by omega
   obtain⟨k,hk⟩:∃ k,un-i=k+1:=⟨un-i-1,by omega⟩;by_cases hle:n≤1500
   ·have hl:(n:Int)≤1500:=by omega
    have hb:n*mn≤1500000:=Nat.mul_le_mul hle hm
    have e3:IntKind.i64.wrap ((n:Int)*(mn:Int))=((n*mn:Nat):Int):=by rw[← Int.natCast_mul];exact IntWalk.i64_in _ (by omega)
    have HN:Hid (alF mn (n*mn) (un-(i+1))=R):=ħ (by
     have:=hr.o;rw[hk,Zzt mn k n hle] at this
     rwa [show un-(i+1)=k by omega])
    clear hr hk
    go_wp2_with fail
    go_roundw
    case rel=>exact⟨i+1,n*mn,by go_num,by go_num,by omega,hb,HN,(by trivial)⟩
    case measure=>simp only[intOf];omega
   ·have hl:¬ (n:Int)≤1500:=by omega
    have HE:Hid (n=R):=ħ (by have:=hr.o;rwa [Z1v mn _ n hle] at this);clear hr hk
    go_wp2_with fail
    go_ret;exact⟨by rw[HE.o];rfl,B1.o⟩
  ·have ii:¬ (i:Int)<un:=by omega
   have HE:Hid (n=R):=ħ (by
    have:=hr.o
    rwa [show un-i=0 by omega] at this)
   clear hr
   go_wp2_with fail
   go_ret;exact⟨by rw[HE.o];rfl,B1.o⟩
def Zsz (M U n r:Nat):List Nat:=Zb4 U (fun t=>if t<r then 0 else n/M^(U-1-t)%M)
theorem Zs0 (M U n:Nat):Zsz M U n U=Zb4 U (fun _=>0):=by
 unfold Zsz Zb4;exact List.map_congr_left (fun t ht=>if_pos (List.mem_range.1 ht))
theorem Zzv (M U n:Nat):Zsz M U n 0=Zdd M U n:=by
 apply List.ext_getElem?;intro i;by_cases hi:i<U
 ·rw[Zwr M n U i hi]
  unfold Zsz;rw[Zdn _ hi,if_neg (by omega)]
 ·rw[List.getElem?_eq_none (l:=Zsz M U n 0) (by unfold Zsz Zb4;rw[List.length_map,List.length_range];omega),List.getElem?_eq_none (by rw[Zbv];omega)]
theorem Zwy {M U n r:Nat} (hr:r+1≤U):(Zsz M U n (r+1)).set r (n/M^(U-(r+1))%M)=Zsz M U n r:=by
 unfold Zsz;refine Zhz _ ?_ (fun t ht hne=>?_)
 ·show (if r<r then 0 else n/M^(U-1-r)%M)=_
  rw[if_neg (by omega),show U-1-r=U-(r+1) by omega]
 ·show (if t<r then 0 else n/M^(U-1-t)%M)=(if t<r+1 then 0 else n/M^(U-1-t)%M)
  by_cases h:t<r
  ·rw[if_pos h,if_pos (by omega)]
  ·rw[if_neg h,if_neg (by omega)]
theorem Zzw {M U n r:Nat} (hr:r+1≤U):n/M^(U-(r+1))/M=n/M^(U-r):=by
 rw[Nat.div_div_eq_div_mul,← Nat.pow_succ];exact congrArg (fun z=>n/M^z) (by omega)
theorem Zwz (w:World) (c:Crw) (cs:List Value) (n:Nat) (hc:Zfu w c cs) (hu:c.us.length≤999) (hm0:0<c.ms.length) (hm:c.ms.length≤1000) (hn:n≤1000000) :
  Calls Tryz.prog 65 #[.agg cs.toArray,.int .i64 (n:Int)] w fun e w'=>(∃ P,e = .returned (.slice (some ⟨P,0,none⟩) c.us.length c.us.length)∧w.heap.size≤P∧Zaf w' P 3 (Zau (Zdd c.ms.length c.us.length n)))∧Below w.heap.size w w':=by
 obtain⟨qo,qc,mo,mc,uo,uc,rfl,-,-⟩:=Zi7 hc;clear hc;generalize c.qs.length=qn at *;generalize c.ms.length=mn at *;generalize c.us.length=un at *;have B1:=ħ ((Below.refl w.heap.size w).alloc (Nat.le_refl _) (.cells #[.slice qo qn qc,.slice mo mn mc,.slice uo un uc] 26));have X1:Hid (Zaf (w.alloc (.cells #[.slice qo qn qc,.slice mo mn mc,.slice uo un uc] 26)) w.heap.size 26 [.slice qo qn qc,.slice mo mn mc,.slice uo un uc]):=ħ (heap_alloc_new w _)
 go_enter Tryz.func65,Tryz.ntmps65
 go_upto_region 1 with (fail)
 generalize w.alloc (.cells #[.slice qo qn qc,.slice mo mn mc,.slice uo un uc] 26)=w1 at *;have c2:=X1.o.cell 2 _ rfl;have hmk:=run_make_row' (P:=Tryz.prog) 33 3 (.int .i64 0) 8 Tryz.underlying33 Zbf rfl .i64 .i64 un (by omega) (by omega);rw[Zi0] at hmk;have bx:=(Below.refl w1.heap.size w1).alloc (Nat.le_refl _) (.cells (Zau (Zb4 un (fun _=>0))).toArray 3);have P1:=ħ (Zaf.new w1 3 (Zau (Zb4 un (fun _=>0))));have X2:=ħ (X1.o.step bx);have B2:=ħ (B1.o.trans (bx.mono B1.o.size));have HP:Hid (w.heap.size≤w1.heap.size∧w.heap.size<w1.heap.size):=ħ ⟨B1.o.size,X1.o.lt⟩;clear bx
 go_upto_region 2 with (fail)
 clear hmk c2;generalize w1.alloc (.cells (Zau (Zb4 un (fun _=>0))).toArray 3)=w2 at *;obtain⟨P,hP⟩:∃ P,w1.heap.size=P:=⟨_,rfl⟩;rw[hP] at P1 HP ⊢;have P2:Hid (Zaf w2 P 3 (Zau (Zsz mn un n un))):=ħ (by rw[Zs0];exact P1.o);have e0:IntKind.i64.wrap ((un:Int)-1)=(un:Int)-1:=IntWalk.i64_in _ (by omega);clear hP P1 X1 B1
 go_upto_region 3 with (fail)
 clear e0
 go_loopw [6,1] (fun iv nv wr=>∃ (r:Nat) (z:Int),iv = .int .i64 z∧nv = .int .i64 ((n/mn^(un-r):Nat):Int)∧Hid (z=(r:Int)-1)∧r≤un∧Hid (Zaf wr P 3 (Zau (Zsz mn un n r)))∧Hid (Zaf wr w.heap.size 26 [.slice qo qn qc,.slice mo mn mc,.slice uo un uc])∧Hid (Below w.heap.size w wr)) (fun i _ _=>(intOf i+1).toNat)
 case atStart=>exact⟨un,(un:Int)-1,rfl,by rw[Nat.sub_self,Nat.pow_zero,Nat.div_one],ħ rfl,Nat.le_refl _,P2,X2,B2⟩
 case round =>
  clear P2 X2 B2;obtain⟨r,z,rfl,rfl,HZ,hr,PR,XR,BR⟩:=hrel
  cases r with
  | zero =>
   have hz:=HZ.o
   have ii:¬ (0:Int)≤z:=by omega
   have ii2:¬ z≥(0:Int):=by omega
   have HE:Hid (Zaf wr P 3 (Zau (Zdd mn un n))):=ħ (by have:=PR.o;rwa [Zzv] at this);clear PR
   go_wp2_with fail
   go_ret;exact⟨⟨P,rfl,HP.o.1,HE.o⟩,BR.o⟩
  | succ r =>
   have hz:=HZ.o
   obtain rfl:z=(r:Int):=by omega
   have ii:(0:Int)≤(r:Int):=by omega
   have ii2:(r:Int)≥0:=by omega
   have e1:IntKind.i64.wrap ((r:Int)-1)=(r:Int)-1:=IntWalk.i64_in _ (by omega);obtain⟨y,hy⟩:∃ y,n/mn^(un-(r+1))=y:=⟨_,rfl⟩
   have hyn:y≤1000000:=by rw[← hy];exact Nat.le_trans (Nat.div_le_self _ _) hn
   have hd:=Zzw (M:=mn) (n:=n) hr;have hs:=Zwy (M:=mn) (n:=n) hr;rw[hy] at hd hs ⊢;obtain⟨d,hdd⟩:∃ d,y%mn=d:=⟨_,rfl⟩;obtain⟨q,hqq⟩:∃ d,y/mn=d:=⟨_,rfl⟩;have HDQ:Hid (q=n/mn^(un-r)):=ħ (by rw[← hd,hqq])
   have hdl:d≤y:=by rw[← hdd];exact Nat.mod_le _ _
   have hql:q≤y:=by rw[← hqq];exact Nat.div_le_self _ _
   have m1:((y:Int)%((mn:Nat):Int))=((d:Nat):Int):=by rw[← hdd];rfl
   have m2:Int.tmod (y:Int) ((mn:Nat):Int)=((d:Nat):Int):=by rw[← hdd];rfl
   have q1:((y:Int)/((mn:Nat):Int))=((q:Nat):Int):=by rw[← hqq];rfl
   have q2:Int.tdiv (y:Int) ((mn:Nat):Int)=((q:Nat):Int):=by rw[← hqq];rfl
   have w1':IntKind.i64.wrap ((d:Nat):Int)=((d:Nat):Int):=IntWalk.i64_in _ (by omega);have w2':IntKind.i64.wrap ((q:Nat):Int)=((q:Nat):Int):=IntWalk.i64_in _ (by omega)
   have hz0:¬ ((mn:Nat):Int)=0:=by omega
   rw[hdd] at hs
   have PN:Hid (Zaf (wr.setCell ⟨P,r,none⟩ (.int .i64 (d:Int))) P 3 (Zau (Zsz mn un n r))):=ħ (by
    have h:=PR.o.set r (.int .i64 ((d:Nat):Int))
    rwa [Zgc,hs] at h)
   have p0:=PR.o.cell r _ (Zd1 (show (Zsz mn un n (r+1))[r]?=some (if r<r+1 then 0 else n/mn^(un-1-r)%mn) from Zdn _ (by omega)));have pf:=PR.o.warm r
   have ri:(r:Int)<(un:Int):=by omega
   have c1:=XR.o.cell 1 _ rfl;have XN:=ħ (XR.o.off (p:=⟨P,r,none⟩) (fun e=>by have e:w.heap.size=P:=e;have:=HP.o.2;omega) (.int .i64 (d:Int)));have BN:=ħ (BR.o.setCell (p:=⟨P,r,none⟩) HP.o.1 (.int .i64 (d:Int)));clear HZ hz PR XR BR hs hd hy hdd hqq hdl hql
   go_upto_region 6 with (fail)
   clear p0 pf c1;generalize wr.setCell ⟨P,r,none⟩ (.int .i64 (d:Int))=wd at *;have c1:=XN.o.cell 1 _ rfl
   go_wp2_with fail
   go_roundw
   case rel=>exact⟨r,(r:Int)-1,by go_num,by rw[← HDQ.o],ħ rfl,by omega,PN,XN,BN⟩
   case measure=>simp only[intOf];omega
theorem Zow (w:World) (m:Mem) (cs:List Value) (hm:Zta w m cs) (k:Nat) (hk:k≤1000000) (hl:m.t.length≤1000000000) :
  Calls Tryz.prog 129 #[.agg cs.toArray,.int .i64 k] w fun e w'=>e = .returned (.int .i64 (Zbj m.t k))∧Below w.heap.size w w':=by
 obtain⟨bo,bc,to',tc,rfl,-,ht⟩:=hm;have HT:=ħ ht;unfold Zbj;have bx:=(Below.refl w.heap.size w).alloc (Nat.le_refl _) (.cells #[.slice bo m.b.length bc,.slice to' m.t.length tc,.int .i64 m.r] 44);have B1:=ħ bx;have X1:Hid (Zaf (w.alloc (.cells #[.slice bo m.b.length bc,.slice to' m.t.length tc,.int .i64 m.r] 44)) w.heap.size 44 [.slice bo m.b.length bc,.slice to' m.t.length tc,.int .i64 m.r]):=ħ (heap_alloc_new w _);have H1:=ħ (HT.o.below bx);clear bx ht HT;generalize m.b.length=nb at *;generalize m.r=mr at *;generalize m.t=tl at *
 go_enter Tryz.func129,Tryz.ntmps129
 go_upto_region 1 with (fail)
 generalize w.alloc (.cells #[.slice bo nb bc,.slice to' tl.length tc,.int .i64 mr] 44)=w1 at *;have x1:=X1.o.cell 1 _ rfl;by_cases hlt:k<tl.length
 ·have kk:(k:Int)<(tl.length:Nat):=by omega
  obtain⟨g,off,hao,hg,hc⟩:=H1.o.at Zax k tl[k] (List.getElem?_eq_getElem hlt);have c0:=hc 0 _ rfl;rw[Nat.mul_one,Nat.add_zero] at c0;have HV:Hid (tl.getD k 0=tl[k]):=ħ (by rw[List.getD_eq_getElem?_getD,List.getElem?_eq_getElem hlt];rfl);generalize tl[k]=tk at *;generalize tl.length=tn at *;clear hc hg;subst hao
  go_wp2_with fail
  go_ret;exact⟨Za5 HV.o.symm,B1.o⟩
 ·have kk:¬ (k:Int)<(tl.length:Nat):=by omega
  have HV:Hid (tl.getD k 0=0):=ħ (by rw[List.getD_eq_getElem?_getD,List.getElem?_eq_none (by omega)];rfl);generalize tl.length=tn at *
  go_wp2_with fail
  go_ret;exact⟨Za5 HV.o.symm,B1.o⟩
end
section
open Go.RowKit Go.Sort Go.Maps
theorem Z2u (t:Array Value) (h:t.size=76):∃ f:Nat→Value,t=#[f 0,f 1,f 2,f 3,f 4,f 5,f 6,f 7,f 8,f 9,f 10,f 11,f 12,f 13,f 14,f 15,f 16,f 17,f 18,f 19,f 20,f 21,f 22,f 23,f 24,f 25,f 26,f 27,f 28,f 29,f 30,f 31,f 32,f 33,f 34,f 35,f 36,f 37,f 38,f 39,f 40,f 41,f 42,f 43,f 44,f 45,f 46,f 47,f 48,f 49,f 50,f 51,f 52,f 53,f 54,f 55,f 56,f 57,f 58,f 59,f 60,f 61,f 62,f 63,f 64,f 65,f 66,f 67,f 68,f 69,f 70,f 71,f 72,f 73,f 74,f 75]:=by
 obtain⟨l⟩:=t;have hl:l.length=76:=h
 have e:l=(List.range 76).map (fun i=>l.getD i undef):=by
  apply List.ext_getElem
  ·simp[hl]
  ·intro i h1 h2
   simp[List.getD,h1]
 exact⟨fun i=>l.getD i undef,congrArg List.toArray e⟩
def Z12 (CB gm om mn mc gl ol un lc gu ou uc ix n li wd:Nat) (bo:Option Addr) (nb bc:Nat) (to':Option Addr) (nt tc:Nat) (mr tk:Int) (bb:Bool) (i:Nat) (W:World) (v:Value):Prop:=match i with
 | 0=>v = .int .i64 (n:Nat)
 | 1=>v = .pointer (some ⟨CB,1,none⟩)
 | 2=>v = .slice (some ⟨gm,om,none⟩) mn mc
 | 3=>v = .slice (some ⟨gl,ol,none⟩) un lc
 | 4=>v = .int .i64 (ix:Nat)
 | 5=>v = .pointer (some ⟨gl,ol+ix,none⟩)
 | 6=>v = .int .i64 (li:Nat)
 | 7=>v = .pointer (some ⟨gm,om+li*3,none⟩)
 | 8=>v = .agg #[.slice bo nb bc,.slice to' nt tc,.int .i64 mr]
 | 9=>v = .pointer (some ⟨CB,2,none⟩)
 | 10=>v = .slice (some ⟨gu,ou,none⟩) un uc
 | 11=>v = .int .i64 (ix:Nat)
 | 12=>v = .pointer (some ⟨gu,ou+ix*4,none⟩)
 | 13=>v = .pointer (some ⟨gu,ou+ix*4+1,none⟩)
 | 14=>v = .int .i64 (wd:Nat)
 | 15=>v = .int .i64 tk
 | 16=>v = .bool bb
 | _=>True
theorem Zox (CB gm om mn mc gl ol un lc gu ou uc ix n li wd:Nat) (bo:Option Addr) (nb bc:Nat) (to':Option Addr) (nt tc:Nat) (mr tk:Int) (bb:Bool):∀ i w w' v,Z12 CB gm om mn mc gl ol un lc gu ou uc ix n li wd bo nb bc to' nt tc mr tk bb i w v→Below w.heap.size w w'→Z12 CB gm om mn mc gl ol un lc gu ou uc ix n li wd bo nb bc to' nt tc mr tk bb i w' v:=by
 intro i w w' v h hb
 match i with
 | 0=>exact h
 | 1=>exact h
 | 2=>exact h
 | 3=>exact h
 | 4=>exact h
 | 5=>exact h
 | 6=>exact h
 | 7=>exact h
 | 8=>exact h
 | 9=>exact h
 | 10=>exact h
 | 11=>exact h
 | 12=>exact h
 | 13=>exact h
 | 14=>exact h
 | 15=>exact h
 | 16=>exact h
 | k+17=>trivial
theorem Zzx {w:World} {rows:List (List Bool)} {co:Option Addr} (h:Ze5 w rows co) {i m:Nat} {row:List Bool} (hi:rows[i]?=some row) (hm:m<row.length):∃ g off gb ob bc,co=some ⟨g,off,none⟩∧g<w.heap.size∧gb<w.heap.size∧w.cell? ⟨g,off+i,none⟩=some (.slice (some ⟨gb,ob,none⟩) row.length bc)∧w.cell? ⟨gb,ob+m,none⟩=some (.bool (row.getD m false)):=by
 obtain⟨g,off,bo,bc,h1,h2,h3,h4⟩:=h.at i row hi;obtain⟨gb,ob,h5,h6,h7⟩:=h4.at (k:=1) (fun _=>rfl) m row[m] (List.getElem?_eq_getElem hm);subst h5;refine⟨g,off,gb,ob,bc,h1,h2,h6,h3,?_⟩;have h8:=h7 0 _ rfl;rw[Nat.mul_one,Nat.add_zero] at h8;rw[h8,List.getD_eq_getElem?_getD,List.getElem?_eq_getElem hm];rfl
def Zjt (T:Tbl) (l:List Nat) (i:Nat):Bool:=T.can i (l.getD i 0)&&decide ((List.range l.length).countP (fun k=>l.getD k 0==l.getD i 0&&T.win k==T.win i)≤T.cap (l.getD i 0) (T.win i))
theorem Zw0 (T:Tbl) (l:List Nat):Z11 T l=(List.range l.length).all (Zjt T l):=rfl
theorem Zju (p:Nat→Bool) (i:Nat):(List.range (i+1)).all p=((List.range i).all p&&p i):=by
 rw[List.range_succ,List.all_append];simp
theorem Zi8 {p:Nat→Bool} {n i:Nat} (hi:i<n) (h:p i=false):(List.range n).all p=false:=by
 rw[List.all_eq_false];exact⟨i,List.mem_range.2 hi,by rw[h];decide⟩
theorem Zjv (p:Nat→Bool) (i:Nat):(List.range (i+1)).countP p=(List.range i).countP p+if p i=true then 1 else 0:=by
 rw[List.range_succ,List.countP_append]
 congr 1
 rw[List.countP_cons,List.countP_nil,Nat.zero_add]
theorem Zs1 (w:World) (c:Crw) (cs:List Value) (rows:List (List Bool)) (co:Option Addr) (cc:Nat) (l:List Nat) (lo:Option Addr) (lc:Nat) (hc:Zfu w c cs) (hR:Ze5 w rows co) (hok:ReckOk c rows) (hu:c.us.length≤999) (hm:c.ms.length≤1000) (hl:l∈Zbl c.ms.length c.us.length) (hF:Zak Zbe w lo (l.map Int.ofNat)) (hti:∀ m∈c.ms,m.t.length≤1000) :
  Calls Tryz.prog 66 #[.agg cs.toArray,.slice co c.us.length cc,.slice lo c.us.length lc] w fun e w'=>e = .returned (.bool (Z11 (Zar c rows) l))∧Below w.heap.size w w':=by
 obtain⟨hll,hlx⟩:=(Zb2 _ l).1 hl;have HUW:=ħ (fun W (hW:Below w.heap.size w W)=>(Zi7 (hc.below hW)));have HRW:=ħ (fun W (hW:Below w.heap.size w W)=>hR.below hW);have HFW:=ħ (fun W (hW:Below w.heap.size w W)=>hF.below hW);have HOK:=ħ hok;have HTI:=ħ hti;obtain⟨R,hRR⟩:∃ R,Z11 (Zar c rows) l=R:=⟨_,rfl⟩;rw[hRR]
 have HFA:Hid (∀ ix,ix<c.us.length→Zjt (Zar c rows) l ix=false→R=false):=ħ (fun ix hi h=>by
  rw[← hRR,Zw0]
  exact Zi8 (by rw[hll];exact hi) h)
 have HEA:Hid ((List.range c.us.length).all (Zjt (Zar c rows) l)=R):=ħ (by rw[← hRR,Zw0,hll])
 have HGL:Hid (∀ ix,ix<c.us.length→l[ix]?=some (l.getD ix 0)∧l.getD ix 0<c.ms.length):=ħ (fun ix hi=>by
  have h1:ix<l.length:=by rw[hll];exact hi
  rw[List.getD_eq_getElem?_getD,List.getElem?_eq_getElem h1]
  exact⟨rfl,hlx _ (List.getElem_mem h1)⟩)
 obtain⟨qo,qc,mo,mc,uo,uc,hcs,hmr0,hur0⟩:=HUW.o w (Below.refl _ _);subst hcs;have HMW:=ħ (fun W (hW:Below w.heap.size w W)=>hmr0.below hW);have HUR:=ħ (fun W (hW:Below w.heap.size w W)=>hur0.below hW)
 have HGU:Hid (∀ ix,ix<c.us.length→∃ x wd,c.us[ix]?=some x∧x.w=((wd:Nat):Int)∧wd≤15∧(Zar c rows).win ix=wd):=ħ (fun ix hi=>by
  have h1:=HOK.o.win c.us[ix] (List.getElem_mem hi);refine⟨c.us[ix],c.us[ix].w.toNat,List.getElem?_eq_getElem hi,by omega,by omega,?_⟩;show (c.us.getD ix ⟨0,0,0,0⟩).w.toNat=_
  rw[List.getD_eq_getElem?_getD,List.getElem?_eq_getElem hi];rfl)
 have HGM:Hid (∀ k,k<c.ms.length→∀ wd,∃ m,c.ms[k]?=some m∧0≤Zbj m.t wd∧(Zar c rows).cap k wd=(Zbj m.t wd).toNat∧m.t.length≤1000):=ħ (fun k hk wd=>by
  have h1:=List.getElem_mem hk;refine⟨c.ms[k],List.getElem?_eq_getElem hk,?_,?_,HTI.o _ h1⟩
  ·have h2:=(HOK.o.tic _ h1).1
   unfold Zbj;rw[List.getD_eq_getElem?_getD]
   cases h3:c.ms[k].t[wd]? with
   | none=>exact Int.le_refl _
   | some t=>exact (h2 t (List.mem_of_getElem? h3)).1
  ·show (Zbj (c.ms.getD k ⟨[],[],0⟩).t wd).toNat=_
   rw[List.getD_eq_getElem?_getD (l:=c.ms),List.getElem?_eq_getElem hk];rfl)
 have HGR:Hid (∀ ix,ix<c.us.length→∀ m,m<c.ms.length→∃ row,rows[ix]?=some row∧m<row.length∧(Zar c rows).can ix m=row.getD m false):=ħ (fun ix hi m hm=>by
  have h1:ix<rows.length:=by rw[HOK.o.len];exact hi
  refine⟨rows[ix],List.getElem?_eq_getElem h1,by rw[HOK.o.row _ (List.getElem_mem h1)];exact hm,?_⟩;show (rows.getD ix []).getD m false=_
  rw[List.getD_eq_getElem?_getD (l:=rows),List.getElem?_eq_getElem h1];rfl)
 clear HUW hc hR hok hl hF hti hlx hRR hmr0 hur0 HTI HOK;have HLL0:=ħ hll;clear hll;generalize hT:Zar c rows=T at *;clear hT;generalize c.qs.length=qn at *;generalize c.ms.length=mn at *;generalize c.us.length=un at *;have B1:=ħ ((Below.refl w.heap.size w).alloc (Nat.le_refl _) (.cells #[.slice qo qn qc,.slice mo mn mc,.slice uo un uc] 26));have X1:Hid (Zaf (w.alloc (.cells #[.slice qo qn qc,.slice mo mn mc,.slice uo un uc] 26)) w.heap.size 26 [.slice qo qn qc,.slice mo mn mc,.slice uo un uc]):=ħ (heap_alloc_new w _)
 go_enter Tryz.func66,Tryz.ntmps66
 go_upto_region 1 with (fail)
 generalize w.alloc (.cells #[.slice qo qn qc,.slice mo mn mc,.slice uo un uc] 26)=w1 at *;have HXW:=ħ (fun W (hW:Below w1.heap.size w1 W)=>X1.o.step hW);have HBW:=ħ (fun W (hW:Below w1.heap.size w1 W)=>B1.o.trans (hW.mono B1.o.size));clear X1 B1
 go_upto_region 2 with (fail)
 go_loopw [7] (fun iv wr=>∃ (ix:Nat),iv = .int .i64 ix∧ix≤un∧Hid ((List.range ix).all (Zjt T l)=true)∧Hid (Below w1.heap.size w1 wr)) (fun ix _=>(un-intOf ix).toNat)
 case atStart=>exact⟨0,rfl,by omega,ħ rfl,ħ (Below.refl _ _)⟩
 case round =>
  obtain⟨ix,rfl,hi,HJ,BR⟩:=hrel;have e2:IntKind.i64.wrap ((ix:Int)+1)=((ix+1:Nat):Int):=IntWalk.i64_in _ (by omega);by_cases hin:ix<un
  ·have ii:(ix:Int)<un:=by omega
   obtain⟨hli,hlm⟩:=HGL.o ix hin;obtain⟨x,wd,hx,hxw,hwd,hwin⟩:=HGU.o ix hin;obtain⟨row,hrow,hml,hcan⟩:=HGR.o ix hin _ hlm;have BW:=ħ (HBW.o wr BR.o);obtain⟨gl,ol,hlo,hgl,hcl⟩:=(HFW.o wr BW.o).at Zax ix ((l.getD ix 0:Nat):Int) (by rw[List.getElem?_map,hli];rfl);have r1:=hcl 0 _ rfl;rw[Nat.mul_one,Nat.add_zero] at r1;obtain⟨gr,orr,gb,ob,bc,hco,hgr,hgb,k1,k2⟩:=Zzx (HRW.o wr BW.o) hrow hml;have HNX:Hid ((List.range (ix+1)).all (Zjt T l)=Zjt T l ix):=ħ (by rw[Zju,HJ.o];rfl);have HFI:=ħ (HFA.o ix hin)
   have HLA:Hid (Zjt T l ix=(row.getD (l.getD ix 0) false&&decide ((List.range un).countP (fun k=>l.getD k 0==l.getD ix 0&&T.win k==wd)≤T.cap (l.getD ix 0) wd))):=ħ (by
    unfold Zjt
    rw[hcan,hwin,HLL0.o])
   obtain⟨li,hlie⟩:∃ a,l.getD ix 0=a:=⟨_,rfl⟩;have HLI0:=ħ hlie;rw[hlie] at hlm r1 k2 HLA
   have lml:(li:Int)<(row.length:Nat):=by rw[hlie] at hml;omega
   obtain⟨rb,hrb⟩:∃ b,row.getD li false=b:=⟨_,rfl⟩;rw[hrb] at k2 HLA;generalize row.length=rl at *;have WDE:Hid (T.win ix=wd):=ħ hwin;have HLO:=ħ hlo;have HCO:=ħ hco;have k0:=HLO;clear hli hx hrow hml hcan hcl hrb hlie hxw hwin;subst hlo;subst hco
   cases rb with
   | false =>
    have HE:=ħ (HFI.o (by rw[HLA.o];rfl))
    go_upto_region 4 with (fail)
    go_quiet (fail)
    have B5:=ħ (below_drewN BR.o nq);clear r1 k1 k2 lml BW BR;generalize wr.drewN nq=wd5 at *
    go_wp2_with fail
    go_ret;exact⟨by rw[HE.o];rfl,HBW.o _ B5.o⟩
   | true =>
    go_upto_region 4 with (fail)
    go_quiet (fail)
    have B5:=ħ (below_drewN BR.o nq);clear r1 k1 k2 lml BW BR;generalize wr.drewN nq=wi at *
    go_upto_region 8 with (fail)
    go_loopw [8,9] (fun nv kv wr=>∃ (k n:Nat),kv = .int .i64 k∧nv = .int .i64 n∧k≤un∧n≤k∧Hid (n=(List.range k).countP (fun k=>l.getD k 0==li&&T.win k==wd))∧Hid (Below w1.heap.size w1 wr)) (fun _ k _=>(un-intOf k).toNat)
    case atStart=>exact⟨0,0,rfl,rfl,by omega,by omega,ħ rfl,B5⟩
    case round =>
     clear B5;obtain⟨k,n,rfl,rfl,hk,hnk,HN,BR⟩:=hrel;have e3:IntKind.i64.wrap ((k:Int)+1)=((k+1:Nat):Int):=IntWalk.i64_in _ (by omega);have e4:IntKind.i64.wrap ((n:Int)+1)=((n+1:Nat):Int):=IntWalk.i64_in _ (by omega);have BW:=ħ (HBW.o wr BR.o);by_cases hkn:k<un
     ·have kk:(k:Int)<un:=by omega
      obtain⟨hlk,-⟩:=HGL.o k hkn;obtain⟨hli,-⟩:=HGL.o ix hin;obtain⟨y,wk,hy,hyw,-,hwk⟩:=HGU.o k hkn;obtain⟨x,wd',hx,hxw,-,hwd'⟩:=HGU.o ix hin;obtain⟨g1,o1,h1,-,hcl⟩:=(HFW.o wr BW.o).at Zax k ((l.getD k 0:Nat):Int) (by rw[List.getElem?_map,hlk];rfl)
      obtain⟨rfl,rfl⟩:gl=g1∧ol=o1:=by simpa using h1
      obtain⟨g2,o2,h2,-,hcl2⟩:=(HFW.o wr BW.o).at Zax ix ((l.getD ix 0:Nat):Int) (by rw[List.getElem?_map,hli];rfl)
      obtain⟨rfl,rfl⟩:gl=g2∧ol=o2:=by simpa using h2
      have r1:=hcl 0 _ rfl;have r2:=hcl2 0 _ rfl;rw[Nat.mul_one,Nat.add_zero] at r1 r2;rw[HLI0.o] at r2;obtain⟨gu,ou,huo,hgu,hcu⟩:=(HUR.o wr BW.o).at Za3 k y hy;obtain⟨gu2,ou2,huo2,-,hcu2⟩:=(HUR.o wr BW.o).at Za3 ix x hx
      have hee:gu=gu2∧ou=ou2:=by rw[huo] at huo2;simpa using huo2
      obtain⟨rfl,rfl⟩:=hee;have u1:wr.cell? ⟨gu,ou+k*4+1,none⟩=some (.int .i64 y.w):=hcu 1 _ rfl;have u2:wr.cell? ⟨gu,ou+ix*4+1,none⟩=some (.int .i64 x.w):=hcu2 1 _ rfl;rw[hyw] at u1;rw[hxw] at u2;have c2:=(HXW.o wr BR.o).cell 2 _ rfl;rw[huo] at c2
      have HWE:Hid (wd'=wd):=ħ (by
       obtain⟨x',wd2,hx',hxw',-,hwd2⟩:=HGU.o ix hin
       have:x'=x:=by rw[hx] at hx';exact (Option.some.inj hx').symm
       subst this;have h5:=WDE.o
       omega)
      rw[HWE.o] at u2;have HNN:Hid ((List.range (k+1)).countP (fun k=>l.getD k 0==li&&T.win k==wd)=n+if (l.getD k 0==li&&wk==wd)=true then 1 else 0):=ħ (by rw[Zjv,← HN.o,hwk]);generalize l.getD k 0=lk at *;clear HN hlk hli hy hyw hx hxw hwd' h1 h2 hcl hcl2 huo huo2 hgu hcu hcu2 hwk;by_cases hab:lk=li
      ·subst hab
       have hq:(((lk:Nat):Int)==((lk:Nat):Int))=true:=by simp
       by_cases hww:wk=wd
       ·subst hww
        have hq2:(((wk:Nat):Int)==((wk:Nat):Int))=true:=by simp
        go_upto_region 10 with (fail)
        go_quiet (fail)
        have B6:=ħ (below_drewN BR.o nq);clear r1 r2 u1 u2 c2 BW BR hq hq2;generalize wr.drewN nq=wj at *
        go_wp2_with fail
        go_roundw
        case rel=>exact⟨k+1,n+1,by go_num,by go_num,by omega,by omega,ħ (by rw[HNN.o];simp),B6⟩
        case measure=>simp only[intOf];omega
       ·have hq2:(((wk:Nat):Int)==((wd:Nat):Int))=false:=by rw[beq_eq_false_iff_ne];omega
        go_upto_region 10 with (fail)
        go_quiet (fail)
        have B6:=ħ (below_drewN BR.o nq);clear r1 r2 u1 u2 c2 BW BR hq hq2;generalize wr.drewN nq=wj at *
        go_wp2_with fail
        go_roundw
        case rel=>exact⟨k+1,n,by go_num,rfl,by omega,by omega,ħ (by rw[HNN.o];simp[hww]),B6⟩
        case measure=>simp only[intOf];omega
      ·have hq:(((lk:Nat):Int)==((li:Nat):Int))=false:=by rw[beq_eq_false_iff_ne];omega
       go_upto_region 10 with (fail)
       go_quiet (fail)
       have B6:=ħ (below_drewN BR.o nq);clear r1 r2 u1 u2 c2 BW BR hq;generalize wr.drewN nq=wj at *
       go_wp2_with fail
       go_roundw
       case rel=>exact⟨k+1,n,by go_num,rfl,by omega,by omega,ħ (by rw[HNN.o];simp[hab]),B6⟩
       case measure=>simp only[intOf];omega
     ·have kk:¬ (k:Int)<un:=by omega
      obtain rfl:un=k:=by omega
      obtain⟨m,hm1,htp,hcap,hml⟩:=HGM.o li hlm wd;obtain⟨gm,om,csm,hmo,hgm,hmc,hrd⟩:=(HMW.o wr BW.o).at li m hm1;obtain⟨hli,-⟩:=HGL.o ix hin;obtain⟨g1,o1,h1,hg1,hcl⟩:=(HFW.o wr BW.o).at Zax ix ((l.getD ix 0:Nat):Int) (by rw[List.getElem?_map,hli];rfl)
      obtain⟨rfl,rfl⟩:gl=g1∧ol=o1:=by simpa using h1
      have r2:=hcl 0 _ rfl;rw[Nat.mul_one,Nat.add_zero,HLI0.o] at r2;obtain⟨x,wd',hx,hxw,hw15,hwd'⟩:=HGU.o ix hin;obtain⟨gu,ou,huo,hgu,hcu⟩:=(HUR.o wr BW.o).at Za3 ix x hx;have u2:wr.cell? ⟨gu,ou+ix*4+1,none⟩=some (.int .i64 x.w):=hcu 1 _ rfl;have HWE:Hid (wd'=wd):=ħ (by have h5:=WDE.o;omega);rw[hxw,HWE.o] at u2;have HTK:=ħ (fun W (hW:Below wr.heap.size wr W)=>Zow W m csm (hmc.below hW) wd (by omega) (by omega));have HMC0:=hmc;obtain⟨bo,bc',to',tc,rfl,-,-⟩:=hmc;have p0:wr.cell? ⟨gm,om+li*3,none⟩=some (.slice bo m.b.length bc'):=hrd 0 _ rfl;have p1:wr.cell? ⟨gm,om+li*3+1,none⟩=some (.slice to' m.t.length tc):=hrd 1 _ rfl;have p2:wr.cell? ⟨gm,om+li*3+2,none⟩=some (.int .i64 m.r):=hrd 2 _ rfl;have HMC:=ħ (fun W (hW:Below wr.heap.size wr W)=>(⟨(hW.cell (p:=⟨gm,om+li*3,none⟩) hgm).trans p0,(hW.cell (p:=⟨gm,om+li*3+1,none⟩) hgm).trans p1,(hW.cell (p:=⟨gm,om+li*3+2,none⟩) hgm).trans p2⟩:_∧_∧_));have HLI:=ħ (fun W (hW:Below wr.heap.size wr W)=>(hW.cell (p:=⟨gl,ol+ix,none⟩) hg1).trans r2);have HWI:=ħ (fun W (hW:Below wr.heap.size wr W)=>(hW.cell (p:=⟨gu,ou+ix*4+1,none⟩) hgu).trans u2);have HXB:=ħ (fun W (hW:Below wr.heap.size wr W)=>(HXW.o wr BR.o).step hW);rw[hmo,huo] at HXB;have HII:Hid ((ix:Int)<un):=ħ (by omega);have HLL:Hid ((li:Int)<mn):=ħ (by omega);obtain⟨tk,htk⟩:∃ t,Zbj m.t wd=t:=⟨_,rfl⟩;rw[htk] at HTK htp hcap;have HNL:Hid (Zjt T l ix=decide (n≤tk.toNat)):=ħ (by rw[HLA.o,← HN.o,hcap];rfl);generalize m.b.length=nb at *;generalize m.t.length=nt at *;generalize m.r=mr at *;clear HN hm1 hcap hgm hrd hli h1 hg1 hcl r2 hx hxw hwd' hgu hcu u2 p0 p1 p2 hmo huo HMC0 BW htk;by_cases hgt:tk<(n:Int)
      ·have HGT:=ħ hgt
       have HE:=ħ (HFI.o (by rw[HNL.o];exact decide_eq_false (by omega)));clear hgt
       go_upto_region 12 with (fail)
       refine Za2 (Z12 (w.heap.size) gm om mn mc gl ol un lc gu ou uc ix n li wd bo nb bc' to' nt tc mr tk true) (by kernel_rfl) (Zox (w.heap.size) gm om mn mc gl ol un lc gu ou uc ix n li wd bo nb bc' to' nt tc mr tk true) (Zb7 (by kernel_rfl)) (Zf5 (by kernel_rfl)) (Zbd (by kernel_rfl)) ?hs ?he
       case hs =>
        intro i o hi listed a' w' H hl2;have hl3:=Zat hl2;have hin:i<17:=(Array.getElem?_eq_some_iff.1 hi).1;have hb:=ħ H.below;have s2:=H.same 2 (Zam (by kernel_rfl));have s3:=H.same 3 (Zam (by kernel_rfl));have s7:=H.same 7 (Zam (by kernel_rfl));have s8:=H.same 8 (Zam (by kernel_rfl));have hdn:=H.done;have hdf:=H.defers;have hts:=H.tsize;clear hl2 H;obtain⟨t',df⟩:=a';obtain⟨f',rfl⟩:=Z2u t' hts;have hdf':df=[]:=hdf;subst hdf';have gs2:f' 2 = .slice (some ⟨gl,ol,none⟩) un lc:=s2;have gs3:f' 3 = .pointer (some ⟨w.heap.size,0,none⟩):=s3;have gs7:f' 7 = .int .i64 (ix:Nat):=s7;have gs8:f' 8 = .int .i64 (n:Nat):=s8;clear s2 s3 s7 s8;clear hdf hts;have hcases:=Zg3 i hin;clear hin;rcases hcases with rfl | rfl | rfl | rfl | rfl | rfl | rfl | rfl | rfl | rfl | rfl | rfl | rfl | rfl | rfl | rfl | rfl
        ·obtain rfl:=Option.some.inj hi
         clear hdn hl3;rw[gs8];clear gs2 gs3 gs7 gs8;refine Zab rfl ?_
         go_wp2_with fail
         exact Zaa ⟨_,rfl,Below.refl _ _,rfl⟩
        ·obtain rfl:=Option.some.inj hi
         clear hdn hl3;rw[gs3];clear gs2 gs3 gs7 gs8;refine Zab rfl ?_
         go_wp2_with fail
         exact Zaa ⟨_,rfl,Below.refl _ _,rfl⟩
        ·obtain rfl:=Option.some.inj hi
         have dv1:f' 60 = .pointer (some ⟨w.heap.size,1,none⟩):=hdn 1 _ 60 rfl (hl3 1 (by rfl)) rfl;clear hdn hl3;rw[dv1];clear dv1 gs2 gs3 gs7 gs8;have c1:=(HXB.o w' hb.o).cell 1 _ rfl;refine Zab rfl ?_
         go_wp2_with fail
         exact Zaa ⟨_,rfl,Below.refl _ _,rfl⟩
        ·obtain rfl:=Option.some.inj hi
         clear hdn hl3;rw[gs2];clear gs2 gs3 gs7 gs8;refine Zab rfl ?_
         go_wp2_with fail
         exact Zaa ⟨_,rfl,Below.refl _ _,rfl⟩
        ·obtain rfl:=Option.some.inj hi
         clear hdn hl3;rw[gs7];clear gs2 gs3 gs7 gs8;refine Zab rfl ?_
         go_wp2_with fail
         exact Zaa ⟨_,rfl,Below.refl _ _,rfl⟩
        ·obtain rfl:=Option.some.inj hi
         have dv3:f' 62 = .slice (some ⟨gl,ol,none⟩) un lc:=hdn 3 _ 62 rfl (hl3 3 (by rfl)) rfl;have dv4:f' 63 = .int .i64 (ix:Nat):=hdn 4 _ 63 rfl (hl3 4 (by rfl)) rfl;clear hdn hl3;rw[dv3,dv4];clear dv3 dv4 gs2 gs3 gs7 gs8;have ii:=HII.o;refine Zab rfl ?_
         go_wp2_with fail
         exact Zaa ⟨_,rfl,Below.refl _ _,rfl⟩
        ·obtain rfl:=Option.some.inj hi
         have dv5:f' 64 = .pointer (some ⟨gl,ol+ix,none⟩):=hdn 5 _ 64 rfl (hl3 5 (by rfl)) rfl;clear hdn hl3;rw[dv5];clear dv5 gs2 gs3 gs7 gs8;have rr:=HLI.o w' hb.o;refine Zab rfl ?_
         go_wp2_with fail
         exact Zaa ⟨_,rfl,Below.refl _ _,rfl⟩
        ·obtain rfl:=Option.some.inj hi
         have dv2:f' 61 = .slice (some ⟨gm,om,none⟩) mn mc:=hdn 2 _ 61 rfl (hl3 2 (by rfl)) rfl;have dv6:f' 65 = .int .i64 (li:Nat):=hdn 6 _ 65 rfl (hl3 6 (by rfl)) rfl;clear hdn hl3;rw[dv2,dv6];clear dv2 dv6 gs2 gs3 gs7 gs8;have il:=HLL.o;refine Zab rfl ?_
         go_wp2_with fail
         exact Zaa ⟨_,rfl,Below.refl _ _,rfl⟩
        ·obtain rfl:=Option.some.inj hi
         have dv7:f' 66 = .pointer (some ⟨gm,om+li*3,none⟩):=hdn 7 _ 66 rfl (hl3 7 (by rfl)) rfl;clear hdn hl3;rw[dv7];clear dv7 gs2 gs3 gs7 gs8;obtain⟨p0,p1,p2⟩:=HMC.o w' hb.o;refine Zab rfl ?_
         go_wp2_with fail
         exact Zaa ⟨_,rfl,Below.refl _ _,rfl⟩
        ·obtain rfl:=Option.some.inj hi
         clear hdn hl3;rw[gs3];clear gs2 gs3 gs7 gs8;refine Zab rfl ?_
         go_wp2_with fail
         exact Zaa ⟨_,rfl,Below.refl _ _,rfl⟩
        ·obtain rfl:=Option.some.inj hi
         have dv9:f' 68 = .pointer (some ⟨w.heap.size,2,none⟩):=hdn 9 _ 68 rfl (hl3 9 (by rfl)) rfl;clear hdn hl3;rw[dv9];clear dv9 gs2 gs3 gs7 gs8;have c2:=(HXB.o w' hb.o).cell 2 _ rfl;refine Zab rfl ?_
         go_wp2_with fail
         exact Zaa ⟨_,rfl,Below.refl _ _,rfl⟩
        ·obtain rfl:=Option.some.inj hi
         clear hdn hl3;rw[gs7];clear gs2 gs3 gs7 gs8;refine Zab rfl ?_
         go_wp2_with fail
         exact Zaa ⟨_,rfl,Below.refl _ _,rfl⟩
        ·obtain rfl:=Option.some.inj hi
         have dv10:f' 69 = .slice (some ⟨gu,ou,none⟩) un uc:=hdn 10 _ 69 rfl (hl3 10 (by rfl)) rfl;have dv11:f' 70 = .int .i64 (ix:Nat):=hdn 11 _ 70 rfl (hl3 11 (by rfl)) rfl;clear hdn hl3;rw[dv10,dv11];clear dv10 dv11 gs2 gs3 gs7 gs8;have ii:=HII.o;refine Zab rfl ?_
         go_wp2_with fail
         exact Zaa ⟨_,rfl,Below.refl _ _,rfl⟩
        ·obtain rfl:=Option.some.inj hi
         have dv12:f' 71 = .pointer (some ⟨gu,ou+ix*4,none⟩):=hdn 12 _ 71 rfl (hl3 12 (by rfl)) rfl;clear hdn hl3;rw[dv12];clear dv12 gs2 gs3 gs7 gs8;refine Zab rfl ?_
         go_wp2_with fail
         exact Zaa ⟨_,rfl,Below.refl _ _,rfl⟩
        ·obtain rfl:=Option.some.inj hi
         have dv13:f' 72 = .pointer (some ⟨gu,ou+ix*4+1,none⟩):=hdn 13 _ 72 rfl (hl3 13 (by rfl)) rfl;clear hdn hl3;rw[dv13];clear dv13 gs2 gs3 gs7 gs8;have rr:=HWI.o w' hb.o;refine Zab rfl ?_
         go_wp2_with fail
         exact Zaa ⟨_,rfl,Below.refl _ _,rfl⟩
        ·obtain rfl:=Option.some.inj hi
         have dv8:f' 67 = .agg #[.slice bo nb bc',.slice to' nt tc,.int .i64 mr]:=hdn 8 _ 67 rfl (hl3 8 (by rfl)) rfl;have dv14:f' 73 = .int .i64 (wd:Nat):=hdn 14 _ 73 rfl (hl3 14 (by rfl)) rfl;clear hdn hl3;rw[dv8,dv14];clear dv8 dv14 gs2 gs3 gs7 gs8;refine Zab rfl ?_
         go_wp2_with fail
         refine (HTK.o w' hb.o).mono ?_;rintro e w4 ⟨rfl,b4⟩;have HB4:=ħ b4;clear b4
         go_wp2_with fail
         exact Zaa ⟨_,rfl,HB4.o,rfl⟩
        ·obtain rfl:=Option.some.inj hi
         have dv0:f' 59 = .int .i64 (n:Nat):=hdn 0 _ 59 rfl (hl3 0 (by rfl)) rfl;have dv15:f' 74 = .int .i64 tk:=hdn 15 _ 74 rfl (hl3 15 (by rfl)) rfl;clear hdn hl3;rw[dv0,dv15];clear dv0 dv15 gs2 gs3 gs7 gs8;have hgt:=HGT.o;refine Zab rfl ?_
         go_wp2_with fail
         exact Zaa ⟨_,rfl,Below.refl _ _,rfl⟩
       case he =>
        intro listed a' w4 H hall;have hd16:Z12 (w.heap.size) gm om mn mc gl ol un lc gu ou uc ix n li wd bo nb bc' to' nt tc mr tk true 16 w4 (a'.tmps.getD 75 undef):=H.done 16 _ 75 rfl (hall 16 (by decide)) rfl;have hb4:=ħ H.below;have hact:=H.act [59,60,61,62,63,64,65,66,67,68,69,70,71,72,73,74,75] (Zc2 (by kernel_rfl));clear H hall;simp only[List.foldl_cons,List.foldl_nil] at hact;generalize a'.tmps.getD 59 undef=z59 at *;generalize a'.tmps.getD 60 undef=z60 at *;generalize a'.tmps.getD 61 undef=z61 at *;generalize a'.tmps.getD 62 undef=z62 at *;generalize a'.tmps.getD 63 undef=z63 at *;generalize a'.tmps.getD 64 undef=z64 at *;generalize a'.tmps.getD 65 undef=z65 at *;generalize a'.tmps.getD 66 undef=z66 at *;generalize a'.tmps.getD 67 undef=z67 at *;generalize a'.tmps.getD 68 undef=z68 at *;generalize a'.tmps.getD 69 undef=z69 at *;generalize a'.tmps.getD 70 undef=z70 at *;generalize a'.tmps.getD 71 undef=z71 at *;generalize a'.tmps.getD 72 undef=z72 at *;generalize a'.tmps.getD 73 undef=z73 at *;generalize a'.tmps.getD 74 undef=z74 at *;generalize a'.tmps.getD 75 undef=z75 at *;subst hact;have e16:z75 = .bool true:=hd16;subst e16;clear hd16;simp only[Act.put,List.setIfInBounds_toArray,List.set_cons_succ,List.set_cons_zero];have B7:=ħ (HBW.o _ (BR.o.trans (hb4.o.mono BR.o.size)))
        go_wp2_with fail
        go_ret;exact⟨by rw[HE.o];rfl,B7.o⟩
      ·have HGT:=ħ hgt
       have HT1:Hid (Zjt T l ix=true):=ħ (by rw[HNL.o];exact decide_eq_true (by omega));clear hgt
       go_upto_region 12 with (fail)
       refine Za2 (Z12 (w.heap.size) gm om mn mc gl ol un lc gu ou uc ix n li wd bo nb bc' to' nt tc mr tk false) (by kernel_rfl) (Zox (w.heap.size) gm om mn mc gl ol un lc gu ou uc ix n li wd bo nb bc' to' nt tc mr tk false) (Zb7 (by kernel_rfl)) (Zf5 (by kernel_rfl)) (Zbd (by kernel_rfl)) ?hs ?he
       case hs =>
        intro i o hi listed a' w' H hl2;have hl3:=Zat hl2;have hin:i<17:=(Array.getElem?_eq_some_iff.1 hi).1;have hb:=ħ H.below;have s2:=H.same 2 (Zam (by kernel_rfl));have s3:=H.same 3 (Zam (by kernel_rfl));have s7:=H.same 7 (Zam (by kernel_rfl));have s8:=H.same 8 (Zam (by kernel_rfl));have hdn:=H.done;have hdf:=H.defers;have hts:=H.tsize;clear hl2 H;obtain⟨t',df⟩:=a';obtain⟨f',rfl⟩:=Z2u t' hts;have hdf':df=[]:=hdf;subst hdf';have gs2:f' 2 = .slice (some ⟨gl,ol,none⟩) un lc:=s2;have gs3:f' 3 = .pointer (some ⟨w.heap.size,0,none⟩):=s3;have gs7:f' 7 = .int .i64 (ix:Nat):=s7;have gs8:f' 8 = .int .i64 (n:Nat):=s8;clear s2 s3 s7 s8;clear hdf hts;have hcases:=Zg3 i hin;clear hin;rcases hcases with rfl | rfl | rfl | rfl | rfl | rfl | rfl | rfl | rfl | rfl | rfl | rfl | rfl | rfl | rfl | rfl | rfl
        ·obtain rfl:=Option.some.inj hi
         clear hdn hl3;rw[gs8];clear gs2 gs3 gs7 gs8;refine Zab rfl ?_
         go_wp2_with fail
         exact Zaa ⟨_,rfl,Below.refl _ _,rfl⟩
        ·obtain rfl:=Option.some.inj hi
         clear hdn hl3;rw[gs3];clear gs2 gs3 gs7 gs8;refine Zab rfl ?_
         go_wp2_with fail
         exact Zaa ⟨_,rfl,Below.refl _ _,rfl⟩
        ·obtain rfl:=Option.some.inj hi
         have dv1:f' 60 = .pointer (some ⟨w.heap.size,1,none⟩):=hdn 1 _ 60 rfl (hl3 1 (by rfl)) rfl;clear hdn hl3;rw[dv1];clear dv1 gs2 gs3 gs7 gs8;have c1:=(HXB.o w' hb.o).cell 1 _ rfl;refine Zab rfl ?_
         go_wp2_with fail
         exact Zaa ⟨_,rfl,Below.refl _ _,rfl⟩
        ·obtain rfl:=Option.some.inj hi
         clear hdn hl3;rw[gs2];clear gs2 gs3 gs7 gs8;refine Zab rfl ?_
         go_wp2_with fail
         exact Zaa ⟨_,rfl,Below.refl _ _,rfl⟩
        ·obtain rfl:=Option.some.inj hi
         clear hdn hl3;rw[gs7];clear gs2 gs3 gs7 gs8;refine Zab rfl ?_
         go_wp2_with fail
         exact Zaa ⟨_,rfl,Below.refl _ _,rfl⟩
        ·obtain rfl:=Option.some.inj hi
         have dv3:f' 62 = .slice (some ⟨gl,ol,none⟩) un lc:=hdn 3 _ 62 rfl (hl3 3 (by rfl)) rfl;have dv4:f' 63 = .int .i64 (ix:Nat):=hdn 4 _ 63 rfl (hl3 4 (by rfl)) rfl;clear hdn hl3;rw[dv3,dv4];clear dv3 dv4 gs2 gs3 gs7 gs8;have ii:=HII.o;refine Zab rfl ?_
         go_wp2_with fail
         exact Zaa ⟨_,rfl,Below.refl _ _,rfl⟩
        ·obtain rfl:=Option.some.inj hi
         have dv5:f' 64 = .pointer (some ⟨gl,ol+ix,none⟩):=hdn 5 _ 64 rfl (hl3 5 (by rfl)) rfl;clear hdn hl3;rw[dv5];clear dv5 gs2 gs3 gs7 gs8;have rr:=HLI.o w' hb.o;refine Zab rfl ?_
         go_wp2_with fail
         exact Zaa ⟨_,rfl,Below.refl _ _,rfl⟩
        ·obtain rfl:=Option.some.inj hi
         have dv2:f' 61 = .slice (some ⟨gm,om,none⟩) mn mc:=hdn 2 _ 61 rfl (hl3 2 (by rfl)) rfl;have dv6:f' 65 = .int .i64 (li:Nat):=hdn 6 _ 65 rfl (hl3 6 (by rfl)) rfl;clear hdn hl3;rw[dv2,dv6];clear dv2 dv6 gs2 gs3 gs7 gs8;have il:=HLL.o;refine Zab rfl ?_
         go_wp2_with fail
         exact Zaa ⟨_,rfl,Below.refl _ _,rfl⟩
        ·obtain rfl:=Option.some.inj hi
         have dv7:f' 66 = .pointer (some ⟨gm,om+li*3,none⟩):=hdn 7 _ 66 rfl (hl3 7 (by rfl)) rfl;clear hdn hl3;rw[dv7];clear dv7 gs2 gs3 gs7 gs8;obtain⟨p0,p1,p2⟩:=HMC.o w' hb.o;refine Zab rfl ?_
         go_wp2_with fail
         exact Zaa ⟨_,rfl,Below.refl _ _,rfl⟩
        ·obtain rfl:=Option.some.inj hi
         clear hdn hl3;rw[gs3];clear gs2 gs3 gs7 gs8;refine Zab rfl ?_
         go_wp2_with fail
         exact Zaa ⟨_,rfl,Below.refl _ _,rfl⟩
        ·obtain rfl:=Option.some.inj hi
         have dv9:f' 68 = .pointer (some ⟨w.heap.size,2,none⟩):=hdn 9 _ 68 rfl (hl3 9 (by rfl)) rfl;clear hdn hl3;rw[dv9];clear dv9 gs2 gs3 gs7 gs8;have c2:=(HXB.o w' hb.o).cell 2 _ rfl;refine Zab rfl ?_
         go_wp2_with fail
         exact Zaa ⟨_,rfl,Below.refl _ _,rfl⟩
        ·obtain rfl:=Option.some.inj hi
         clear hdn hl3;rw[gs7];clear gs2 gs3 gs7 gs8;refine Zab rfl ?_
         go_wp2_with fail
         exact Zaa ⟨_,rfl,Below.refl _ _,rfl⟩
        ·obtain rfl:=Option.some.inj hi
         have dv10:f' 69 = .slice (some ⟨gu,ou,none⟩) un uc:=hdn 10 _ 69 rfl (hl3 10 (by rfl)) rfl;have dv11:f' 70 = .int .i64 (ix:Nat):=hdn 11 _ 70 rfl (hl3 11 (by rfl)) rfl;clear hdn hl3;rw[dv10,dv11];clear dv10 dv11 gs2 gs3 gs7 gs8;have ii:=HII.o;refine Zab rfl ?_
         go_wp2_with fail
         exact Zaa ⟨_,rfl,Below.refl _ _,rfl⟩
        ·obtain rfl:=Option.some.inj hi
         have dv12:f' 71 = .pointer (some ⟨gu,ou+ix*4,none⟩):=hdn 12 _ 71 rfl (hl3 12 (by rfl)) rfl;clear hdn hl3;rw[dv12];clear dv12 gs2 gs3 gs7 gs8;refine Zab rfl ?_
         go_wp2_with fail
         exact Zaa ⟨_,rfl,Below.refl _ _,rfl⟩
        ·obtain rfl:=Option.some.inj hi
         have dv13:f' 72 = .pointer (some ⟨gu,ou+ix*4+1,none⟩):=hdn 13 _ 72 rfl (hl3 13 (by rfl)) rfl;clear hdn hl3;rw[dv13];clear dv13 gs2 gs3 gs7 gs8;have rr:=HWI.o w' hb.o;refine Zab rfl ?_
         go_wp2_with fail
         exact Zaa ⟨_,rfl,Below.refl _ _,rfl⟩
        ·obtain rfl:=Option.some.inj hi
         have dv8:f' 67 = .agg #[.slice bo nb bc',.slice to' nt tc,.int .i64 mr]:=hdn 8 _ 67 rfl (hl3 8 (by rfl)) rfl;have dv14:f' 73 = .int .i64 (wd:Nat):=hdn 14 _ 73 rfl (hl3 14 (by rfl)) rfl;clear hdn hl3;rw[dv8,dv14];clear dv8 dv14 gs2 gs3 gs7 gs8;refine Zab rfl ?_
         go_wp2_with fail
         refine (HTK.o w' hb.o).mono ?_;rintro e w4 ⟨rfl,b4⟩;have HB4:=ħ b4;clear b4
         go_wp2_with fail
         exact Zaa ⟨_,rfl,HB4.o,rfl⟩
        ·obtain rfl:=Option.some.inj hi
         have dv0:f' 59 = .int .i64 (n:Nat):=hdn 0 _ 59 rfl (hl3 0 (by rfl)) rfl;have dv15:f' 74 = .int .i64 tk:=hdn 15 _ 74 rfl (hl3 15 (by rfl)) rfl;clear hdn hl3;rw[dv0,dv15];clear dv0 dv15 gs2 gs3 gs7 gs8;have hgt:=HGT.o;refine Zab rfl ?_
         go_wp2_with fail
         exact Zaa ⟨_,rfl,Below.refl _ _,rfl⟩
       case he =>
        intro listed a' w4 H hall;have hd16:Z12 (w.heap.size) gm om mn mc gl ol un lc gu ou uc ix n li wd bo nb bc' to' nt tc mr tk false 16 w4 (a'.tmps.getD 75 undef):=H.done 16 _ 75 rfl (hall 16 (by decide)) rfl;have hb4:=ħ H.below;have hact:=H.act [59,60,61,62,63,64,65,66,67,68,69,70,71,72,73,74,75] (Zc2 (by kernel_rfl));clear H hall;simp only[List.foldl_cons,List.foldl_nil] at hact;generalize a'.tmps.getD 59 undef=z59 at *;generalize a'.tmps.getD 60 undef=z60 at *;generalize a'.tmps.getD 61 undef=z61 at *;generalize a'.tmps.getD 62 undef=z62 at *;generalize a'.tmps.getD 63 undef=z63 at *;generalize a'.tmps.getD 64 undef=z64 at *;generalize a'.tmps.getD 65 undef=z65 at *;generalize a'.tmps.getD 66 undef=z66 at *;generalize a'.tmps.getD 67 undef=z67 at *;generalize a'.tmps.getD 68 undef=z68 at *;generalize a'.tmps.getD 69 undef=z69 at *;generalize a'.tmps.getD 70 undef=z70 at *;generalize a'.tmps.getD 71 undef=z71 at *;generalize a'.tmps.getD 72 undef=z72 at *;generalize a'.tmps.getD 73 undef=z73 at *;generalize a'.tmps.getD 74 undef=z74 at *;generalize a'.tmps.getD 75 undef=z75 at *;subst hact;have e16:z75 = .bool false:=hd16;subst e16;clear hd16;simp only[Act.put,List.setIfInBounds_toArray,List.set_cons_succ,List.set_cons_zero];have B7:=ħ (BR.o.trans (hb4.o.mono BR.o.size));clear hb4 BR
        go_wp2_with fail
        go_roundw
        case rel=>exact⟨ix+1,by go_num,by omega,ħ (by rw[HNX.o,HT1.o]),B7⟩
        case measure=>simp only[intOf];omega
  ·have ii:¬ (ix:Int)<un:=by omega
   obtain rfl:un=ix:=by omega
   have HE:Hid (R=true):=ħ (by rw[← HEA.o,HJ.o])
   go_wp2_with fail
   go_ret;exact⟨by rw[HE.o];rfl,HBW.o _ BR.o⟩
end
section
open Go.RowKit Go.Sort Go.Maps
theorem Zoy (l:List Int):l.flatMap Zbe=l.map (Value.int .i64):=(Zem l).symm
end
section
open Go.RowKit Go.Sort Go.Maps
def Zjh {α:Type} (f:α→Value) (l:List α) (n:Nat):List Value:=l.map f++List.replicate (n-l.length) (.slice none 0 0)
theorem Zp0 {α:Type} (f:α→Value) {l:List α} (n:Nat) {j:Nat} {x:α} (h:l[j]?=some x):(Zjh f l n)[j]?=some (f x):=by
 unfold Zjh;rw[List.getElem?_append_left (by rw[List.length_map];exact (List.getElem?_eq_some_iff.1 h).1),List.getElem?_map,h];rfl
theorem Zoz {α:Type} (f:α→Value) {l:List α} {n:Nat} (h:l.length<n):(Zjh f l n)[l.length]?=some (.slice none 0 0):=by
 unfold Zjh;rw[List.getElem?_append_right (by rw[List.length_map];exact Nat.le_refl _),List.length_map,Nat.sub_self,List.getElem?_replicate,if_pos (by omega)]
theorem Zro {α:Type} (f:α→Value) {l:List α} {n:Nat} (h:l.length<n) (x:α):(Zjh f l n).set l.length (f x)=Zjh f (l++[x]) n:=by
 unfold Zjh;rw[List.set_append_right _ _ (by rw[List.length_map];exact Nat.le_refl _),List.length_map,Nat.sub_self,List.map_append,List.length_append];obtain⟨k,hk⟩:∃ k,n-l.length=k+1:=⟨n-l.length-1,by omega⟩;rw[hk,List.replicate_succ,List.set_cons_zero,List.append_assoc];show _=l.map f++([f x]++List.replicate (n-(l.length+1)) _);rw[show n-(l.length+1)=k by omega];rfl
theorem Zmn {α:Type} (f:α→Value) (l:List α) {n:Nat} (h:l.length≤n):(Zjh f l n).length=n:=by
 unfold Zjh;rw[List.length_append,List.length_map,List.length_replicate];omega
theorem Zw1 (N:Nat):madeCells #[Value.slice none 0 0] N=(List.replicate N (Value.slice none 0 0)).toArray:=by
 rcases Nat.eq_zero_or_pos N with h | h
 ·subst h
  simp[madeCells]
 ·apply Array.ext'
  simp[madeCells,Nat.mod_one];rw[List.map_const',List.length_range]
def sV (mn:Nat) (b:Nat):Value:=.slice (some ⟨b,0,none⟩) mn mn
def cV (mn:Nat) (x:Nat×Nat×Nat):Value:=.slice (some ⟨x.1,x.2.1,none⟩) mn x.2.2
def Dsj (SB CK:Nat) (fo:Option Addr) (rb cb:List Nat):Prop:=∃ tg:Nat→Nat,tg SB=0∧tg CK=1∧(∀ g,blk fo=some g→tg g=2)∧(∀ b∈rb,tg b=3)∧∀ b∈cb,tg b=4
def ShR (W:World) (rb:List Nat) (mn:Nat) (f:Nat→Nat→Nat):Prop:=∀ (j b:Nat),rb[j]?=some b→Zaf W b 3 (Zau (Zb4 mn (f j)))
theorem ShR.below {W W':World} {rb:List Nat} {mn:Nat} {f:Nat→Nat→Nat} (h:ShR W rb mn f) (hb:Below W.heap.size W W'):ShR W' rb mn f:=fun j b hj=>(h j b hj).step hb
theorem ShR.set {W:World} {rb:List Nat} {mn:Nat} {f f':Nat→Nat→Nat} (h:ShR W rb mn f) (nd:rb.Nodup) {j b m v:Nat} (hj:rb[j]?=some b) (hv:f' j m=v) (h1:∀ m',m'≠m→f' j m'=f j m') (h2:∀ j' m',j'≠j→f' j' m'=f j' m'):ShR (W.setCell ⟨b,m,none⟩ (.int .i64 (v:Int))) rb mn f':=fun j' b' hj'=>by
 by_cases e:j'=j
 ·subst e
  rw[hj] at hj';obtain rfl:=Option.some.inj hj';have:=(h j' b hj).set m (.int .i64 (v:Int))
  rwa [Zgc,Zhz v hv (fun t _ ht=>h1 t ht)] at this
 ·have hne:b'≠b:=fun e2=>by
   subst e2;have i1:=(List.getElem?_eq_some_iff.1 hj).1;have i2:=(List.getElem?_eq_some_iff.1 hj').1;have q1:=(List.getElem?_eq_some_iff.1 hj).2;have q2:=(List.getElem?_eq_some_iff.1 hj').2;exact e ((List.getElem_inj nd).1 (q2.trans q1.symm))
  have:=(h j' b' hj').off (p:=⟨b,m,none⟩) hne (.int .i64 (v:Int))
  rwa [show Zb4 mn (f j')=Zb4 mn (f' j') from List.map_congr_left (fun t _=>(h2 j' t e).symm)] at this
theorem ShR.congr {W:World} {rb:List Nat} {mn:Nat} {f f':Nat→Nat→Nat} (h:ShR W rb mn f) (he:∀ j m,j<rb.length→f' j m=f j m):ShR W rb mn f':=fun j b hj=>by
 have hlt:=(List.getElem?_eq_some_iff.1 hj).1;have:=h j b hj
 rwa [show Zb4 mn (f j)=Zb4 mn (f' j) from List.map_congr_left (fun t _=>(he j t hlt).symm)] at this
theorem OwnK.onlyN {w w':World} {B k n cap:Nat} {xs:List Value} {ao:Option Addr} (h:OwnK w B k n cap xs ao) {p:Nat→Prop} (on:Only w w' p) (hp:∀ g,blk ao=some g→¬ p g):OwnK w' B k n cap xs ao :=
 h.of_block (fun g e hl=>on.block g hl (hp g e)) on.size
structure ExS (W:World) (B0 SB CK mn un:Nat) (rows:List (List Bool)) (nf:Nat) (fo:Option Addr) (fc:Nat) (rb:List Nat) (cr:List (Nat×Nat×Nat)):Prop where
 sb:Zaf W SB 33 (Zjh (sV mn) rb un)
 ck:Zaf W CK 87 (Zjh (cV mn) cr un)
 sh:ShR W rb mn (fun _ _=>0)
 cn:∀ (j:Nat) (x:Nat×Nat×Nat),cr[j]?=some x→x.1<W.heap.size∧Zay W x.1 x.2.1 (bvs (rows.getD j []))
 fr:OwnK W B0 1 nf fc ((List.replicate nf (-1:Int)).flatMap Zbe) fo
 nd:rb.Nodup
 dj:Dsj SB CK fo rb (cr.map (·.1))
 lo:B0≤SB∧B0≤CK∧∀ b∈rb,B0≤b
section
variable {W W':World} {B0 SB CK mn un:Nat} {rows:List (List Bool)} {nf:Nat} {fo:Option Addr} {fc:Nat} {rb:List Nat} {cr:List (Nat×Nat×Nat)}
theorem ExS.rbLt (h:ExS W B0 SB CK mn un rows nf fo fc rb cr):∀ b∈rb,b<W.heap.size:=fun b hb=>by
 obtain⟨i,hi,rfl⟩:=List.mem_iff_getElem.1 hb;exact (h.sh i _ (List.getElem?_eq_getElem hi)).lt
theorem ExS.crLt (h:ExS W B0 SB CK mn un rows nf fo fc rb cr):∀ b∈cr.map (·.1),b<W.heap.size:=fun b hb=>by
 obtain⟨x,hx,rfl⟩:=List.mem_map.1 hb;obtain⟨i,hi,rfl⟩:=List.mem_iff_getElem.1 hx;exact (h.cn i _ (List.getElem?_eq_getElem hi)).1
theorem ExS.below (h:ExS W B0 SB CK mn un rows nf fo fc rb cr) (hb:Below W.heap.size W W'):ExS W' B0 SB CK mn un rows nf fo fc rb cr :=
 ⟨h.sb.step hb,h.ck.step hb,h.sh.below hb,fun j x hj=>⟨Nat.lt_of_lt_of_le (h.cn j x hj).1 hb.size,(h.cn j x hj).2.of_block (hb.block _ (h.cn j x hj).1)⟩,h.fr.below hb,h.nd,h.dj,h.lo⟩
theorem ExS.rowA (h:ExS W B0 SB CK mn un rows nf fo fc rb cr) (hlen:rb.length<un) (hB:B0≤W.heap.size):ExS ((W.alloc (.cells (Zau (Zb4 mn (fun _=>0))).toArray 3)).setCell ⟨SB,rb.length,none⟩ (.slice (some ⟨W.heap.size,0,none⟩) mn mn)) B0 SB CK mn un rows nf fo fc (rb++[W.heap.size]) cr:=by
 obtain⟨tg,t1,t2,t3,t4,t5⟩:=h.dj;have hb:=(Below.refl W.heap.size W).alloc (Nat.le_refl _) (.cells (Zau (Zb4 mn (fun _=>0))).toArray 3);have h2:=h.below hb;have hnew:=Zaf.new W 3 (Zau (Zb4 mn (fun _=>0)));have hS:=h.sb.lt;have hC:=h.ck.lt;have hl:=h.rbLt;have hcl:=h.crLt
 have hfl:∀ g,blk fo=some g→g<W.heap.size:=fun g hg=>(h.fr.blk_lt hg).2
 refine⟨?_,h2.ck.off (fun e=>by have e:CK=SB:=e;rw[e,t1] at t2;cases t2) _,fun j b hj=>?_,fun j x hj=>⟨?_,?_⟩,h2.fr.setCell _ (fun e=>by have:=t3 SB e;omega),?_,⟨fun g=>if g=W.heap.size then 3 else tg g,?_,?_,fun g hg=>?_,fun b hb2=>?_,fun b hb2=>?_⟩,h.lo.1,h.lo.2.1,fun b hb2=>?_⟩
 ·have:=h2.sb.set rb.length (.slice (some ⟨W.heap.size,0,none⟩) mn mn)
  rwa [show (Value.slice (some ⟨W.heap.size,0,none⟩) mn mn)=sV mn W.heap.size from rfl,Zro (sV mn) hlen] at this
 ·by_cases hjl:j<rb.length
  ·rw[List.getElem?_append_left hjl] at hj
   exact (h2.sh j b hj).off (fun e=>by
    have e:b=SB:=e;have:=t4 b (List.mem_of_getElem? hj);rw[e,t1] at this
    cases this) _
  ·rw[List.getElem?_append_right (by omega)] at hj
   have h0:j-rb.length=0:=by
    rcases Nat.eq_zero_or_pos (j-rb.length) with h3 | h3
    ·exact h3
    ·rw[List.getElem?_eq_none (by show 1≤_;omega)] at hj;cases hj
   rw[h0] at hj;obtain rfl:=Option.some.inj hj;exact hnew.off (fun e=>by have e:W.heap.size=SB:=e;omega) _
 ·have:=(h2.cn j x hj).1
  simpa using this
 ·have hm:x.1∈cr.map (·.1):=List.mem_map.2 ⟨x,List.mem_of_getElem? hj,rfl⟩
  exact (h2.cn j x hj).2.of_block (((Only.refl _ (· = SB)).setCell (a:=⟨SB,rb.length,none⟩) (.slice (some ⟨W.heap.size,0,none⟩) mn mn) rfl).block _ (h2.cn j x hj).1 (fun e=>by
   have:=t5 _ hm;rw[e,t1] at this
   cases this))
 ·exact List.nodup_append.2 ⟨h.nd,by simp,fun a ha b hb2=>by
   simp at hb2;subst hb2;have:=hl a ha
   omega⟩
 ·show (if SB=W.heap.size then 3 else tg SB)=0
  rw[if_neg (by omega)];exact t1
 ·show (if CK=W.heap.size then 3 else tg CK)=1
  rw[if_neg (by omega)];exact t2
 ·show (if g=W.heap.size then 3 else tg g)=2
  have:=hfl g hg;rw[if_neg (by omega)];exact t3 g hg
 ·show (if b=W.heap.size then 3 else tg b)=3
  rcases List.mem_append.1 hb2 with h3 | h3
  ·have:=hl b h3
   rw[if_neg (by omega)];exact t4 b h3
  ·rw[List.mem_singleton] at h3
   rw[if_pos h3]
 ·show (if b=W.heap.size then 3 else tg b)=4
  have:=hcl b hb2;rw[if_neg (by omega)];exact t5 b hb2
 ·rcases List.mem_append.1 hb2 with h3 | h3
  ·exact h.lo.2.2 b h3
  ·rw[List.mem_singleton] at h3
   omega
theorem ExS.freeB (h:ExS W B0 SB CK mn un rows nf fo fc rb cr) {g off c':Nat} (ho:OwnK W' B0 1 (nf+1) c' ((List.replicate nf (-1:Int)).flatMap Zbe++[.int .i64 (-1)]) (some ⟨g,off,none⟩)) (hg:W.grownBy W' (blk fo)) (hn:blk fo=some g∨W.heap.size≤g):ExS W' B0 SB CK mn un rows (nf+1) (some ⟨g,off,none⟩) c' rb cr:=by
 obtain⟨tg,t1,t2,t3,t4,t5⟩:=h.dj;have hS:=h.sb.lt;have hC:=h.ck.lt;have hl:=h.rbLt;have hcl:=h.crLt;refine⟨h.sb.grownBy hg (fun e=>by have:=t3 _ e;omega),h.ck.grownBy hg (fun e=>by have:=t3 _ e;omega),fun j b hj=>(h.sh j b hj).grownBy hg (fun e=>by have:=t3 _ e;have:=t4 b (List.mem_of_getElem? hj);omega),fun j x hj=>?_,?_,h.nd,⟨fun z=>if z=g then 2 else tg z,?_,?_,fun z hz=>?_,fun b hb2=>?_,fun b hb2=>?_⟩,h.lo⟩
 ·have hm:x.1∈cr.map (·.1):=List.mem_map.2 ⟨x,List.mem_of_getElem? hj,rfl⟩
  refine⟨Nat.lt_of_lt_of_le (h.cn j x hj).1 hg.size,(h.cn j x hj).2.of_block (hg.block _ (h.cn j x hj).1 (fun e=>?_))⟩;have:=t3 _ e.symm;have:=t5 _ hm;omega
 ·have e:(List.replicate nf (-1:Int)).flatMap Zbe++[Value.int .i64 (-1)]=(List.replicate (nf+1) (-1:Int)).flatMap Zbe:=by
   rw[Zoy,Zoy,List.replicate_succ',List.map_append];rfl
  rw[← e];exact ho
 ·show (if SB=g then 2 else tg SB)=0
  rw[if_neg (fun e=>by
   rcases hn with h3 | h3
   ·have:=t3 g h3;rw[← e,t1] at this;cases this
   ·omega)];exact t1
 ·show (if CK=g then 2 else tg CK)=1
  rw[if_neg (fun e=>by
   rcases hn with h3 | h3
   ·have:=t3 g h3;rw[← e,t2] at this;cases this
   ·omega)];exact t2
 ·have hz:some g=some z:=hz
  obtain rfl:=Option.some.inj hz;show (if g=g then 2 else tg g)=2;rw[if_pos rfl]
 ·show (if b=g then 2 else tg b)=3
  have:=hl b hb2;have h4:=t4 b hb2
  rw[if_neg (fun e=>by
   rcases hn with h3 | h3
   ·have:=t3 g h3;rw[← e,h4] at this;cases this
   ·omega)];exact h4
 ·show (if b=g then 2 else tg b)=4
  have:=hcl b hb2;have h4:=t5 b hb2
  rw[if_neg (fun e=>by
   rcases hn with h3 | h3
   ·have:=t3 g h3;rw[← e,h4] at this;cases this
   ·omega)];exact h4
theorem ExS.canC (h:ExS W B0 SB CK mn un rows nf fo fc rb cr) {x:Nat×Nat×Nat} (on:Only W W' (· = CK)) (hck:Zaf W' CK 87 (Zjh (cV mn) (cr++[x]) un)) (hx:W.heap.size≤x.1∧x.1<W'.heap.size∧Zay W' x.1 x.2.1 (bvs (rows.getD cr.length []))):ExS W' B0 SB CK mn un rows nf fo fc rb (cr++[x]):=by
 obtain⟨tg,t1,t2,t3,t4,t5⟩:=h.dj;have hS:=h.sb.lt;have hC:=h.ck.lt;have hl:=h.rbLt;have hcl:=h.crLt
 have hfl:∀ g,blk fo=some g→g<W.heap.size:=fun g hg=>(h.fr.blk_lt hg).2
 refine⟨h.sb.only on (fun e=>by rw[e,t2] at t1;cases t1),hck,fun j b hj=>(h.sh j b hj).only on (fun e=>by have:=t4 b (List.mem_of_getElem? hj);rw[e,t2] at this;cases this),fun j y hj=>?_,?_,h.nd,⟨fun z=>if z=x.1 then 4 else tg z,?_,?_,fun z hz=>?_,fun b hb2=>?_,fun b hb2=>?_⟩,h.lo⟩
 ·by_cases hjl:j<cr.length
  ·rw[List.getElem?_append_left hjl] at hj
   have hm:y.1∈cr.map (·.1):=List.mem_map.2 ⟨y,List.mem_of_getElem? hj,rfl⟩;refine⟨Nat.lt_of_lt_of_le (h.cn j y hj).1 on.size,(h.cn j y hj).2.of_block (on.block _ (h.cn j y hj).1 (fun e=>?_))⟩;have:=t5 _ hm;rw[e,t2] at this;cases this
  ·rw[List.getElem?_append_right (by omega)] at hj
   have h0:j-cr.length=0:=by
    rcases Nat.eq_zero_or_pos (j-cr.length) with h3 | h3
    ·exact h3
    ·rw[List.getElem?_eq_none (by show 1≤_;omega)] at hj;cases hj
   rw[h0] at hj;obtain rfl:=Option.some.inj hj;rw[show j=cr.length by omega];exact hx.2
 ·have hno:∀ g,blk fo=some g→¬ g=CK:=fun g hg e=>by have:=t3 g hg;rw[e,t2] at this;cases this
  exact h.fr.onlyN on hno
 ·show (if SB=x.1 then 4 else tg SB)=0
  rw[if_neg (by omega)];exact t1
 ·show (if CK=x.1 then 4 else tg CK)=1
  rw[if_neg (by omega)];exact t2
 ·show (if z=x.1 then 4 else tg z)=2
  have:=hfl z hz;rw[if_neg (by omega)];exact t3 z hz
 ·show (if b=x.1 then 4 else tg b)=3
  have:=hl b hb2;rw[if_neg (by omega)];exact t4 b hb2
 ·show (if b=x.1 then 4 else tg b)=4
  rw[List.map_append] at hb2;rcases List.mem_append.1 hb2 with h3 | h3
  ·have:=hcl b h3
   rw[if_neg (by omega)];exact t5 b h3
  ·have h3:b∈[x.1]:=h3
   rw[List.mem_singleton] at h3;rw[if_pos h3]
theorem ExS.can (h:ExS W B0 SB CK mn un rows nf fo fc rb cr) (on:Only W W' (·∈rb)) (hc:cr.length=rows.length) (hr:∀ r∈rows,r.length=mn):Ze5 W' rows (some ⟨CK,0,none⟩):=by
 obtain⟨tg,t1,t2,t3,t4,t5⟩:=h.dj;have hck:=h.ck.only on (fun e=>by have:=t4 _ e;rw[t2] at this;cases this);refine .inr ⟨CK,0,rfl,hck.lt,fun i row hi=>?_⟩;have hil:=(List.getElem?_eq_some_iff.1 hi).1;obtain⟨x,hx⟩:∃ x,cr[i]?=some x:=⟨_,List.getElem?_eq_getElem (by omega)⟩;have h1:=hck.cell i _ (Zp0 (cV mn) un hx);have hm:x.1∈cr.map (·.1):=List.mem_map.2 ⟨x,List.mem_of_getElem? hx,rfl⟩;obtain⟨h2,h3⟩:=h.cn i x hx;have h4:=h3.of_block (on.block _ h2 (fun e=>by have:=t4 _ e;have:=t5 _ hm;omega));have hrl:=hr row (List.mem_of_getElem? hi);rw[List.getD_eq_getElem?_getD,hi,Zgb] at h4;refine⟨some ⟨x.1,x.2.1,none⟩,x.2.2,?_,.inr ⟨x.1,x.2.1,rfl,Nat.lt_of_lt_of_le h2 on.size,h4⟩⟩;rw[Nat.zero_add,h1,hrl];rfl
theorem ExS.sbOn (h:ExS W B0 SB CK mn un rows nf fo fc rb cr) (on:Only W W' (·∈rb)):Zaf W' SB 33 (Zjh (sV mn) rb un):=by
 obtain⟨tg,t1,t2,t3,t4,t5⟩:=h.dj;exact h.sb.only on (fun e=>by have:=t4 _ e;rw[t1] at this;cases this)
theorem ExS.frOn (h:ExS W B0 SB CK mn un rows nf fo fc rb cr) (on:Only W W' (·∈rb)):Zak Zbe W' fo (List.replicate nf (-1:Int)):=by
 obtain⟨tg,t1,t2,t3,t4,t5⟩:=h.dj;exact (h.fr.onlyN on (fun g hg e=>by have:=t3 g hg;have:=t4 _ e;omega)).flatR Zax (by rw[List.length_replicate])
theorem ExS.belowOn (h:ExS W B0 SB CK mn un rows nf fo fc rb cr) (on:Only W W' (·∈rb)) (hB:B0≤W.heap.size):Below B0 W W':=on.below hB h.lo.2.2
end
end
section
open Go.RowKit Go.Sort Go.Maps
structure ExP (c:Crw) (un mn N:Nat) (lg:Nat→Bool) (ct:Nat→Nat) (sh:Nat→Nat→Nat→Nat) (fp:Nat→Int→Prop):Prop where
 law:∀ k,k<N→Z11 (Zar c (Zao c)) (Zdd mn un k)=lg k
 fit:∀ k,k<N→Zmd c ((Zdd mn un k).map Int.ofNat)=lg k
 mem:∀ k,Zdd mn un k∈Zbl mn un
 cN:ct N=0
 c1:∀ k,k<N→ct k=ct (k+1)+if lg k=true then 1 else 0
 cL:∀ k,ct k≤N
 sN:∀ i m,sh N i m=0
 s1:∀ k i m,k<N→sh k i m=sh (k+1) i m+if (lg k&&(Zdd mn un k).getD i 0==m)=true then 1 else 0
 sL:∀ k i m,sh k i m≤N
 fN:fp N (-1)
 f1:∀ k,k<N→lg k=true→fp k (k:Int)
 f0:∀ k f,k<N→lg k=false→fp (k+1) f→fp k f
 cnt:(Zcr c).2=0→(Zcr c).1=ct 0
 cod:(Zcr c).2=0∨(Zcr c).2=6
 asg:Zcm (Zar c (Zao c))=decide (0<ct 0)
 fst:∀ f,fp 0 f→Zcm (Zar c (Zao c))=true→∃ g:Nat,f=(g:Int)∧g<N∧Zdd mn un g=Za0 c c.us.length 0 (Zao c) []
 shr:∀ i:Nat,i<un→(Zer c (i:Int)).2=(Zcr c).2∧((Zcr c).2=0→(Zer c (i:Int)).1=(List.range mn).map (sh 0 i))
 pos:∀ i:Nat,i<un→Zol c (i:Int)=(List.range mn).filter (fun m=>decide (0<sh 0 i m))
theorem Z2v {c:Crw} (hv:Zal c=true) (hn:c.us.length≤1000) (hm:0<c.ms.length):ExP c c.us.length c.ms.length (c.ms.length^c.us.length) (fun k=>Zln (Zar c (Zao c)) (Zdd c.ms.length c.us.length k)) (Ztd (Zar c (Zao c)) (Zln (Zar c (Zao c)))) (shE (Zar c (Zao c))) (Zwv (Zar c (Zao c))):=by
 have hok:=Zap hv hn
 have hT:∀ k,Zdd c.ms.length c.us.length k∈Zbl c.ms.length c.us.length:=fun k=>Zrl hm _ _
 have hcnt:Zcr c=Zck (Zar c (Zao c)):=by unfold Zcr;rw[if_pos hv]
 have hidx:∀ i:Nat,i<c.us.length→Zb8 (i:Int) c.us.length=true:=fun i hi=>Zme.2 ⟨by omega,by simpa using hi⟩
 refine⟨fun k hk=>Z1s (T:=Zar c (Zao c)) (hT k),fun k hk=>Zzs hv hok (hT k),hT,Zrm _ _,fun k hk=>Zov (T:=Zar c (Zao c)) hm _ hk,fun k=>Zwu _ _ _,fun i m=>Zrm _ _,fun k i m hk=>Zov (T:=Zar c (Zao c)) hm _ hk,fun k i m=>Zwu _ _ _,Zwv.start _,fun k hk h=>Zwv.hit (T:=Zar c (Zao c)) hk h,fun k f hk h hf=>hf.miss h,fun h=>?_,?_,?_,fun f hf he=>?_,fun i hi=>?_,fun i hi=>?_⟩
 ·rw[hcnt] at h ⊢
  rw[(Zrj (Zwq hok) h).2,Zrn]
 ·rw[hcnt]
  unfold Zck;split
  ·exact .inr rfl
  ·split
   ·exact .inr rfl
   ·exact .inl rfl
 ·rw[Zrn,Bool.eq_iff_iff,Zll,decide_eq_true_eq]
  exact Zqc.symm
 ·obtain⟨h1,h2,h3⟩:=Zla hok he
  exact Zzr (T:=Zar c (Zao c)) hm hf h1 h2 h3
 ·have h1:Zer c (i:Int)=if (Zck (Zar c (Zao c))).2=0 then ((List.range c.ms.length).map (shr c (i:Int)),0) else ([],(Zck (Zar c (Zao c))).2):=by
   unfold Zer;rw[hv,hidx i hi];rfl
  rw[h1,hcnt];by_cases h:(Zck (Zar c (Zao c))).2=0
  ·rw[if_pos h,h]
   exact⟨rfl,fun _=>List.map_congr_left (fun m hmm=>(Z1t hok hi (List.mem_range.1 hmm) h).symm)⟩
  ·rw[if_neg h]
   exact⟨rfl,fun h2=>absurd h2 h⟩
 ·unfold Zol
  rw[hv,hidx i hi];show Zhl c (Zao c) ((i:Nat):Int).toNat=_;unfold Zhl;exact List.filter_congr (fun m hmm=>(Z1u hok hi (List.mem_range.1 hmm)).symm)
theorem Ze8 {w:World} {P:Nat} {t:TypeId} {l:List Nat} (h:Zaf w P t (Zau l)):Zak Zbe w (some ⟨P,0,none⟩) (l.map Int.ofNat):=by
 refine .inr ⟨P,0,rfl,h.lt,fun j u hj=>?_⟩;rw[← Ze6] at hj;have:=h.cell j u hj
 rwa [Nat.zero_add]
theorem Zzy (w:World) (c:Crw) (cs:List Value) (B:Nat) (lo:Option Addr) (lc:Nat) (hv:Zal c=true) (ha:ArgC w c cs B) (hl:Zak Zbe w lo (List.replicate c.us.length (-1:Int))) :
  Calls Tryz.prog 23 #[.agg cs.toArray,.slice lo c.us.length lc] w fun e w'=>Below w.heap.size w w'∧∃ o n cap,e = .returned (.tuple #[.slice o n cap,.bool (Zcm (Zar c (Zao c)))])∧(Zcm (Zar c (Zao c))=true→n=c.us.length∧Zak Zbe w' o ((Za0 c c.us.length 0 (Zao c) []).map Int.ofNat)):=by
 have hA:Zyy c (List.replicate c.us.length (-1:Int))=some (Zao c):=by
  unfold Zyy;rw[hv,List.length_replicate,decide_eq_true rfl,Bool.true_and,if_pos rfl,Zot]
 have h0:=Zvn w c cs B (List.replicate c.us.length (-1:Int)) lo lc ha hl;rw[List.length_replicate] at h0;refine h0.mono ?_;intro e w' h;unfold Z10 at h;rw[hA] at h;obtain⟨hb,h⟩:=h;refine⟨hb,?_⟩;by_cases hf:Zcm (Zar c (Zao c))=true
 ·have h:if Zcm (Zar c (Zao c))=true then ∃ o cap,e = .returned (.tuple #[.slice o (Za0 c c.us.length 0 (Zao c) []).length cap,.bool true])∧OwnK w' w.heap.size 1 (Za0 c c.us.length 0 (Zao c) []).length cap (Zau (Za0 c c.us.length 0 (Zao c) [])) o else e = .returned (.tuple #[.slice none 0 0,.bool false]):=h
  rw[if_pos hf] at h;obtain⟨o,cap,h1,h2⟩:=h
  have hn:c.us.length≤1000:=by have:=ha.nu;omega
  have h3:=(Zla (Zap hv hn) hf).1;exact⟨o,_,cap,by rw[hf];exact h1,fun _=>⟨h3,Zcq h2 rfl⟩⟩
 ·have h:if Zcm (Zar c (Zao c))=true then ∃ o cap,e = .returned (.tuple #[.slice o (Za0 c c.us.length 0 (Zao c) []).length cap,.bool true])∧OwnK w' w.heap.size 1 (Za0 c c.us.length 0 (Zao c) []).length cap (Zau (Za0 c c.us.length 0 (Zao c) [])) o else e = .returned (.tuple #[.slice none 0 0,.bool false]):=h
  rw[if_neg hf] at h
  have hf2:Zcm (Zar c (Zao c))=false:=by simpa using hf
  exact⟨none,0,0,by rw[hf2];exact h,fun h2=>absurd h2 hf⟩
theorem Zw2 {W:World} {B0 SB CK mn un:Nat} {rows:List (List Bool)} {fo:Option Addr} {fc:Nat} (hs:Zaf W SB 33 (Zjh (sV mn) [] un)) (hc:Zaf W CK 87 (Zjh (cV mn) [] un)) (hf:OwnK W B0 1 0 fc [] fo) (hd:SB≠CK) (hn:∀ g,blk fo=some g→g≠SB∧g≠CK) (h1:B0≤SB) (h2:B0≤CK):ExS W B0 SB CK mn un rows 0 fo fc [] [] :=
 ⟨hs,hc,fun j b hj=>by simp at hj,fun j x hj=>by simp at hj,hf,List.nodup_nil,⟨fun g=>if g=SB then 0 else if g=CK then 1 else 2,if_pos rfl,by show (if CK=SB then 0 else if CK=CK then 1 else 2)=1;rw[if_neg (fun e=>hd e.symm),if_pos rfl],fun g hg=>by
  show (if g=SB then 0 else if g=CK then 1 else 2)=2
  rw[if_neg (hn g hg).1,if_neg (hn g hg).2],fun b hb=>by simp at hb,fun b hb=>by simp at hb⟩,h1,h2,fun b hb=>by simp at hb⟩
theorem Zw3 {α:Type} (f:α→Value) {l:List α} {n:Nat} (h:l.length<n):(Zjh f l n).set l.length (.slice none 0 0)=Zjh f l n:=by
 apply List.ext_getElem?;intro i;rw[List.getElem?_set];by_cases e:l.length=i
 ·subst e
  rw[if_pos rfl,Zoz f h]
  split<;>rename_i h2
  ·rfl
  ·rw[Zmn f l (by omega)] at h2;exact absurd h h2
 ·rw[if_neg e]
theorem Zs2:(Tryz.prog.info? 4).map (fun i=>(i.zero,i.size,i.bytes))=some (some (.bool false),1,1):=by kernel_rfl
theorem Zw4 {c:Crw} {i:Nat} {x:Use} (hx:c.us[i]?=some x):(Zao c).getD i []=Zd3 c (Zaj c) x:=by
 unfold Zao;rw[List.getD_eq_getElem?_getD,List.getElem?_map,hx];rfl
theorem Zzz {c:Crw} (hv:Zal c=true) {i:Nat} {x:Use} (hx:c.us[i]?=some x) {m:Nat} (hm:m<c.ms.length):Zvl c x (m:Int)=((Zao c).getD i []).getD m false:=by
 rw[Zw4 hx];unfold Zvl;have h1:=(Zas hv).2.2.2.2.2 x (List.mem_of_getElem? hx);have h2:Zb8 (m:Int) c.ms.length=true:=Zme.2 ⟨by omega,by simpa using hm⟩;rw[hv,h1,h2];rfl
theorem Zz0 {row:List Bool} {m:Nat} (hm:m<row.length):bvs (row.take m)++[Value.bool (row.getD m false)]=bvs (row.take (m+1)):=by
 rw[List.take_add_one,List.getElem?_eq_getElem hm];unfold bvs;rw[List.map_append,List.getD_eq_getElem?_getD,List.getElem?_eq_getElem hm];rfl
theorem Zz1 {ops:Array Oper} {rest:List Oper} {o:Oper} {a:Act} {Q:Exit→Act→World→Prop} (T E:TypeId) (z:Value) (k bt:Nat)
  (hT:Tryz.prog.underlying T=some (.slice E)) (hE:(Tryz.prog.info? E).map (fun i=>(i.zero,i.size,i.bytes))=some (some z,k,bt)) (hz:z.cells.size=k) (hk:0<k) (hbt:bt≤1000)
  (w:World) (B:Nat) (hg:o.guard=none) (s x:Operand) (hop:o.op=Op.call { callee:=Callee.builtin Builtin.append,args:=#[s,x],argTypes:=#[T,T] })
  (ao:Option Addr) (cap n:Nat) (xs:List Value) (hs:a.eval s = .slice ao n cap) (hO:OwnK w B k n cap xs ao) (hB:B≤w.heap.size)
  (A m c:Nat) (cs:List Value) (te:TypeId) (hx:a.eval x = .slice (some ⟨A,0,none⟩) m c) (hA:Zaf w A te cs) (hm:cs.length=m*k) (hm0:0<m) (h1c:∀ u∈cs,u.oneCell'=true)
  (b1:n+m≤1000000000)
  (hK:∀ g off cap' w',OwnK w' B k (n+m) cap' (xs++cs) (some ⟨g,off,none⟩)→w.grownBy w' (blk ao)→wpList Tryz.prog ops Q rest (a.put o.dst (.slice (some ⟨g,off,none⟩) (n+m) cap')) w') :
  wpList Tryz.prog ops Q (o::rest) a w:=by
 obtain⟨i0,hi,hz0,hz1,hz2⟩:=Zgn hE;refine Zdt w B k hk hg s x T hop E i0 z bt hT hi hz0 hz1 hz2 hz ao cap xs n hs hO hB ⟨A,0,none⟩ m c cs hx hm hm0 (fun j u hj=>hA.addr j u hj) h1c (by simp only[maxLen];omega) (Nat.le_trans (Nat.mul_le_mul b1 hbt) (by decide)) ?_;intro g off cap' w' ho hgr _;exact hK g off cap' w' ho hgr
end
end Go.Proofs.YtbcgocpihobjnaaGreatDoor
