import Derived.Test.YtbcgocpihobjnaaGreatDoorCS43
import Derived.Test.YtbcgocpihobjnaaGreatDoorCS40
import Derived.Test.YtbcgocpihobjnaaGreatDoorCS38
import Derived.Test.YtbcgocpihobjnaaGreatDoorCS34
import Derived.Test.YtbcgocpihobjnaaGreatDoorCS37
import Derived.Test.YtbcgocpihobjnaaGreatDoorCS24
set_option linter.unusedVariables false
set_option linter.unusedSimpArgs false
set_option maxHeartbeats 32000000
set_option maxRecDepth 100000
namespace Go.Proofs.YtbcgocpihobjnaaGreatDoor
section
open Go Go.ChangeShapes Go.WideShapes Go.ChangeAt Go.WideMaps Go.WideElems Go.RowKit
theorem Z1n:Tryz.prog.cellsOf 44=3:=by kernel_rfl
theorem Z05:Tryz.prog.cellsOf 39=4:=by kernel_rfl
theorem cLP:Tryz.prog.cellsOf 22=1:=by kernel_rfl
theorem cLB:Tryz.prog.cellsOf 42=1:=by kernel_rfl
theorem cLI:Tryz.prog.cellsOf 33=1:=by kernel_rfl
theorem cLM:Tryz.prog.cellsOf 23=1:=by kernel_rfl
theorem cLS:Tryz.prog.cellsOf 24=1:=by kernel_rfl
instance:Inhabited Use:=⟨⟨0,0,0,0⟩⟩
instance:Inhabited Wsh:=⟨⟨0,0⟩⟩
instance:Inhabited Mem:=⟨⟨[],[],0⟩⟩
section
variable {H:Type} {enc:TypeId×Value→H} {W:World}
theorem Zut {fuel:Nat} {v:Value} {y:DataW H×List MemPlace} (h:DataW.trod enc Tryz.prog W 0 (fun _=>true) true fuel 33 [v]=some y) :
  ∃ (l:List Int) (ao:Option Addr) (n c:Nat),v = .slice ao n c∧n=l.length∧n≤c∧n≤9223372036854775807∧Zak Zbg W ao l:=by
 obtain⟨ao,n,c,e4,hmc,hcm,hel⟩:=Zco Tryz.underlying33 cI (by decide) h
 have hlen:n≤9223372036854775807:=Nat.le_trans hmc (Nat.le_trans hcm (by decide))
 rcases hel with h0 | ⟨g,off,n',h1,h2,h3,h4⟩
 ·exact⟨[],ao,n,c,e4,h0,hmc,hlen,.inl rfl⟩
 ·obtain⟨l,hl,hk⟩:=Zd5 (α:=Int) n (fun i x=>W.cell? ⟨g,off+i,none⟩=some (.int .i64 x)) (fun i hi=>by
   obtain⟨cs,y,h5,h6,h7⟩:=h4 i hi
   match cs,h5 with
   | [c0],_ =>
    obtain⟨k,e0,-,-⟩:=DataW.trod_int Tryz.underlying3 h7
    simp only[List.cons.injEq,and_true] at e0
    subst e0
    have:=h6 0 _ rfl
    rw[Nat.mul_one,Nat.add_zero] at this
    exact⟨k,this⟩)
  refine⟨l,ao,n,c,e4,hl.symm,hmc,hlen,.inr ⟨g,off,h1,h2,fun j u hj=>?_⟩⟩
  rw[← Zey,ivs,List.getElem?_map] at hj
  obtain⟨x,hx,rfl⟩:=Option.map_eq_some_iff.1 hj
  exact hk j x hx
theorem Zuu {fuel:Nat} {v:Value} {y:DataW H×List MemPlace} (h:DataW.trod enc Tryz.prog W 0 (fun _=>true) true fuel 22 [v]=some y) :
  ∃ (l:List Prd) (ao:Option Addr) (n c:Nat),v = .slice ao n c∧n=l.length∧n≤c∧n≤9223372036854775807∧Ze1 W (fun _=>True) l ao∧(∀ p∈l,ByL p)∧(∀ p∈l,Zs1 p):=by
 obtain⟨ao,n,c,e4,hmc,hcm,hel⟩:=Zco Tryz.underlying22 cP (by decide) h
 have hlen:n≤9223372036854775807:=Nat.le_trans hmc (Nat.le_trans hcm (by decide))
 rcases hel with h0 | ⟨g,off,n',h1,h2,h3,h4⟩
 ·exact⟨[],ao,n,c,e4,h0,hmc,hlen,.inl rfl,by simp,by simp⟩
 ·obtain⟨ks,hkl,hk⟩:=Zd5 (α:=Prd) n (fun i p=>(∃ vs,Zal W (fun g=>g<W.heap.size) p vs∧Zat W g (off+i*5) vs)∧ByL p∧Zs1 p) (fun i hi=>by
   obtain⟨cs,y,h5,h6,h7⟩:=h4 i hi
   obtain⟨p,hp1,hp2,hp3⟩:=Zt4 n' cs y h7
   exact⟨p,⟨cs,hp1,h6⟩,hp2,hp3⟩)
  have hpr:Ze1 W (fun g=>g<W.heap.size) ks ao:=.inr ⟨g,off,h1,h2,h2,Zlg ks g off (fun i p hp=>(hk i p hp).1)⟩
  refine⟨ks,ao,n,c,e4,hkl.symm,hmc,hlen,hpr.mono (fun _ _ _=>trivial),fun q hq=>?_,fun q hq=>?_⟩
  ·obtain⟨i,hi⟩:=List.mem_iff_getElem?.1 hq
   exact (hk i q hi).2.1
  ·obtain⟨i,hi⟩:=List.mem_iff_getElem?.1 hq
   exact (hk i q hi).2.2
theorem Zuv {fuel:Nat} {v:Value} {y:DataW H×List MemPlace} (h:DataW.trod enc Tryz.prog W 0 (fun _=>true) true fuel 42 [v]=some y) :
  ∃ (l:List Bnd) (ao:Option Addr) (n c:Nat),v = .slice ao n c∧n=l.length∧n≤c∧n≤9223372036854775807∧(∀ b∈l,NmL b.n)∧Zak Zxx W ao l:=by
 obtain⟨ao,n,c,e4,hmc,hcm,hel⟩:=Zco Tryz.underlying42 cB (by decide) h
 have hlen:n≤9223372036854775807:=Nat.le_trans hmc (Nat.le_trans hcm (by decide))
 rcases hel with h0 | ⟨g,off,n',h1,h2,h3,h4⟩
 ·exact⟨[],ao,n,c,e4,h0,hmc,hlen,by simp,.inl rfl⟩
 ·obtain⟨l,hl,hk⟩:=Zd5 (α:=Bnd) n (fun i b=>(NmL b.n)∧Zat W g (off+i*2) (Zxx b)) (fun i hi=>by
   obtain⟨cs,y,h5,h6,h7⟩:=h4 i hi
   obtain⟨xs,n2,hn,-,hl,hxl,hf⟩:=DataW.trod_struct Tryz.underlying164 h7
   match cs,h5 with
   | [c0,c1],_ =>
    match xs,hxl with
    | [y0,y1],_ =>
     have f0:DataW.trod enc Tryz.prog W 0 (fun _=>true) true n2 9 (([c0,c1]:List Value).drop 0 |>.take (Tryz.prog.cellsOf 9))=some y0:=hf 0 _ rfl
     have f1:DataW.trod enc Tryz.prog W 0 (fun _=>true) true n2 3 (([c0,c1]:List Value).drop 1 |>.take (Tryz.prog.cellsOf 3))=some y1:=hf 1 _ rfl
     rw[cS] at f0
     rw[cI] at f1
     obtain⟨s0,e0,-,z0⟩:=DataW.trod_string Tryz.underlying9 (show DataW.trod enc Tryz.prog W 0 (fun _=>true) true n2 9 [c0]=some y0 from f0)
     obtain⟨k1,e1,-,-⟩:=DataW.trod_int Tryz.underlying3 (show DataW.trod enc Tryz.prog W 0 (fun _=>true) true n2 3 [c1]=some y1 from f1)
     simp only[List.cons.injEq,and_true] at e0 e1
     subst e0 e1
     obtain⟨l0,rfl,b0,g0⟩:=Zed s0
     exact⟨⟨l0,k1⟩,⟨b0,by rw[g0];exact Nat.le_trans z0 (by decide)⟩,h6⟩)
  refine⟨l,ao,n,c,e4,hl.symm,hmc,hlen,fun b hb=>?_,.inr ⟨g,off,h1,h2,fun j u hj=>?_⟩⟩
  ·obtain⟨i,hi⟩:=List.mem_iff_getElem?.1 hb
   exact (hk i b hi).1
  ·have hjl:=(List.getElem?_eq_some_iff.1 hj).1
   rw[Zbw Zxx 2 Zle] at hjl
   have hi:j/2<l.length:=by omega
   have hb:=List.getElem?_eq_getElem hi
   have hjj:j=j/2*2+j%2:=by omega
   have h9:=(hk (j/2) _ hb).2 (j%2) u (by
    rw[← Zcr Zxx 2 Zle l (j/2) (j%2) _ hb (Nat.mod_lt _ (by decide)),← hjj];exact hj)
   rwa [Nat.add_assoc,← hjj] at h9
theorem Zuw {fuel:Nat} {v:Value} {y:DataW H×List MemPlace} (h:DataW.trod enc Tryz.prog W 0 (fun _=>true) true fuel 24 [v]=some y) :
  ∃ (l:List Use) (ao:Option Addr) (n c:Nat),v = .slice ao n c∧n=l.length∧n≤c∧n≤9223372036854775807∧(∀ b∈l,True)∧Zak Zb0 W ao l:=by
 obtain⟨ao,n,c,e4,hmc,hcm,hel⟩:=Zco Tryz.underlying24 Z05 (by decide) h
 have hlen:n≤9223372036854775807:=Nat.le_trans hmc (Nat.le_trans hcm (by decide))
 rcases hel with h0 | ⟨g,off,n',h1,h2,h3,h4⟩
 ·exact⟨[],ao,n,c,e4,h0,hmc,hlen,by simp,.inl rfl⟩
 ·obtain⟨l,hl,hk⟩:=Zd5 (α:=Use) n (fun i b=>(True)∧Zat W g (off+i*4) (Zb0 b)) (fun i hi=>by
   obtain⟨cs,y,h5,h6,h7⟩:=h4 i hi
   obtain⟨xs,n2,hn,-,hl,hxl,hf⟩:=DataW.trod_struct Tryz.underlying39 h7
   match cs,h5 with
   | [c0,c1,c2,c3],_ =>
    match xs,hxl with
    | [y0,y1,y2,y3],_ =>
     have f0:DataW.trod enc Tryz.prog W 0 (fun _=>true) true n2 3 (([c0,c1,c2,c3]:List Value).drop 0 |>.take (Tryz.prog.cellsOf 3))=some y0:=hf 0 _ rfl
     have f1:DataW.trod enc Tryz.prog W 0 (fun _=>true) true n2 3 (([c0,c1,c2,c3]:List Value).drop 1 |>.take (Tryz.prog.cellsOf 3))=some y1:=hf 1 _ rfl
     have f2:DataW.trod enc Tryz.prog W 0 (fun _=>true) true n2 3 (([c0,c1,c2,c3]:List Value).drop 2 |>.take (Tryz.prog.cellsOf 3))=some y2:=hf 2 _ rfl
     have f3:DataW.trod enc Tryz.prog W 0 (fun _=>true) true n2 3 (([c0,c1,c2,c3]:List Value).drop 3 |>.take (Tryz.prog.cellsOf 3))=some y3:=hf 3 _ rfl
     rw[cI] at f0
     rw[cI] at f1
     rw[cI] at f2
     rw[cI] at f3
     obtain⟨k0,e0,-,-⟩:=DataW.trod_int Tryz.underlying3 (show DataW.trod enc Tryz.prog W 0 (fun _=>true) true n2 3 [c0]=some y0 from f0)
     obtain⟨k1,e1,-,-⟩:=DataW.trod_int Tryz.underlying3 (show DataW.trod enc Tryz.prog W 0 (fun _=>true) true n2 3 [c1]=some y1 from f1)
     obtain⟨k2,e2,-,-⟩:=DataW.trod_int Tryz.underlying3 (show DataW.trod enc Tryz.prog W 0 (fun _=>true) true n2 3 [c2]=some y2 from f2)
     obtain⟨k3,e3,-,-⟩:=DataW.trod_int Tryz.underlying3 (show DataW.trod enc Tryz.prog W 0 (fun _=>true) true n2 3 [c3]=some y3 from f3)
     simp only[List.cons.injEq,and_true] at e0 e1 e2 e3
     subst e0 e1 e2 e3
     exact⟨⟨k0,k1,k2,k3⟩,trivial,h6⟩)
  refine⟨l,ao,n,c,e4,hl.symm,hmc,hlen,fun b hb=>?_,.inr ⟨g,off,h1,h2,fun j u hj=>?_⟩⟩
  ·obtain⟨i,hi⟩:=List.mem_iff_getElem?.1 hb
   exact (hk i b hi).1
  ·have hjl:=(List.getElem?_eq_some_iff.1 hj).1
   rw[Zbw Zb0 4 Zaq] at hjl
   have hi:j/4<l.length:=by omega
   have hb:=List.getElem?_eq_getElem hi
   have hjj:j=j/4*4+j%4:=by omega
   have h9:=(hk (j/4) _ hb).2 (j%4) u (by
    rw[← Zcr Zb0 4 Zaq l (j/4) (j%4) _ hb (Nat.mod_lt _ (by decide)),← hjj];exact hj)
   rwa [Nat.add_assoc,← hjj] at h9
theorem Zux {fuel:Nat} {v:Value} {y:DataW H×List MemPlace} (h:DataW.trod enc Tryz.prog W 0 (fun _=>true) true fuel 23 [v]=some y) :
  ∃ (l:List Mem) (ao:Option Addr) (n c:Nat),v = .slice ao n c∧n=l.length∧n≤c∧n≤9223372036854775807∧(∀ m∈l,(∀ b∈m.b,NmL b.n)∧m.b.length≤9223372036854775807∧m.t.length≤9223372036854775807)∧Zif W l ao:=by
 obtain⟨ao,n,c,e4,hmc,hcm,hel⟩:=Zco Tryz.underlying23 Z1n (by decide) h
 have hlen:n≤9223372036854775807:=Nat.le_trans hmc (Nat.le_trans hcm (by decide))
 rcases hel with h0 | ⟨g,off,n',h1,h2,h3,h4⟩
 ·exact⟨[],ao,n,c,e4,h0,hmc,hlen,by simp,.inl rfl⟩
 ·obtain⟨l,hl,hk⟩:=Zd5 (α:=Mem) n (fun i m=>((∀ b∈m.b,NmL b.n)∧m.b.length≤9223372036854775807∧m.t.length≤9223372036854775807)∧∃ cs,Ztc W m cs∧Zat W g (off+i*3) cs) (fun i hi=>by
   obtain⟨cs,y,h5,h6,h7⟩:=h4 i hi
   obtain⟨xs,n2,hn,-,hl,hxl,hf⟩:=DataW.trod_struct Tryz.underlying44 h7
   match cs,h5 with
   | [c0,c1,c2],_ =>
    match xs,hxl with
    | [y0,y1,y2],_ =>
     have f0:DataW.trod enc Tryz.prog W 0 (fun _=>true) true n2 42 (([c0,c1,c2]:List Value).drop 0 |>.take (Tryz.prog.cellsOf 42))=some y0:=hf 0 _ rfl
     have f1:DataW.trod enc Tryz.prog W 0 (fun _=>true) true n2 33 (([c0,c1,c2]:List Value).drop 1 |>.take (Tryz.prog.cellsOf 33))=some y1:=hf 1 _ rfl
     have f2:DataW.trod enc Tryz.prog W 0 (fun _=>true) true n2 3 (([c0,c1,c2]:List Value).drop 2 |>.take (Tryz.prog.cellsOf 3))=some y2:=hf 2 _ rfl
     rw[cLB] at f0
     rw[cLI] at f1
     rw[cI] at f2
     obtain⟨bl,bo,bn,bc,e0,hb1,hb2,hb3,hb4,hb5⟩:=Zuv (show DataW.trod enc Tryz.prog W 0 (fun _=>true) true n2 42 [c0]=some y0 from f0)
     obtain⟨tl,ta,tn,tc,e1,ht1,ht2,ht3,ht4⟩:=Zut (show DataW.trod enc Tryz.prog W 0 (fun _=>true) true n2 33 [c1]=some y1 from f1)
     obtain⟨k,e2,-,-⟩:=DataW.trod_int Tryz.underlying3 (show DataW.trod enc Tryz.prog W 0 (fun _=>true) true n2 3 [c2]=some y2 from f2)
     simp only[List.cons.injEq,and_true] at e2
     subst e0 e1 e2 hb1 ht1
     refine⟨⟨bl,tl,k⟩,⟨hb4,hb3,ht3⟩,_,⟨bo,bc,ta,tc,rfl,?_,ht4⟩,h6⟩
     rcases hb5 with hb5 | ⟨g5,o5,q1,q2,q3⟩
     ·exact .inl hb5
     ·exact .inr ⟨g5,o5,q1,trivial,q2,q3⟩)
  refine⟨l,ao,n,c,e4,hl.symm,hmc,hlen,fun m hm=>?_,.inr ⟨g,off,h1,h2,fun i m hm=>(hk i m hm).2⟩⟩
  obtain⟨i,hi⟩:=List.mem_iff_getElem?.1 hm
  exact (hk i m hi).1
theorem Zxm {r:Reach} {b0:Nat} {v:Value} {d:DataW H} {p:List MemPlace} (hv:Value.okWide Tryz.prog W r b0 26 v) (h:DataW.Trod enc Tryz.prog W 0 (fun _=>true) true 26 v d p) :
  ∃ (c:Crw) (cs:List Value),v = .agg cs.toArray∧Zg5 W c cs∧LenC c∧(∀ p∈c.qs,ByL p)∧(∀ m∈c.ms,∀ b∈m.b,NmL b.n):=by
 obtain⟨cs,rfl,hsz⟩:=okWide_struct Tryz.underlying26 hv
 obtain⟨fuel,hf⟩:=h
 have hcs:(Value.agg cs).cells=cs:=rfl
 rw[hcs] at hf
 obtain⟨xs,n2,hn,-,hl,hxl,hf⟩:=DataW.trod_struct Tryz.underlying26 hf
 have hl3:cs.toList.length=3:=by rw[hl];kernel_rfl
 obtain⟨l0⟩:=cs
 match l0,hl3 with
 | [c0,c1,c2],_ =>
  match xs,hxl with
  | [y0,y1,y2],_ =>
   have f0:DataW.trod enc Tryz.prog W 0 (fun _=>true) true n2 22 (([c0,c1,c2]:List Value).drop 0 |>.take (Tryz.prog.cellsOf 22))=some y0:=hf 0 _ rfl
   have f1:DataW.trod enc Tryz.prog W 0 (fun _=>true) true n2 23 (([c0,c1,c2]:List Value).drop 1 |>.take (Tryz.prog.cellsOf 23))=some y1:=hf 1 _ rfl
   have f2:DataW.trod enc Tryz.prog W 0 (fun _=>true) true n2 24 (([c0,c1,c2]:List Value).drop 2 |>.take (Tryz.prog.cellsOf 24))=some y2:=hf 2 _ rfl
   rw[cLP] at f0
   rw[cLM] at f1
   rw[cLS] at f2
   obtain⟨ql,qo,qn,qc,e0,hq1,hq2,hq3,hq4,hq5,hq6⟩:=Zuu (show DataW.trod enc Tryz.prog W 0 (fun _=>true) true n2 22 [c0]=some y0 from f0)
   obtain⟨ml,mo,mn,mc,e1,hm1,hm2,hm3,hm4,hm5⟩:=Zux (show DataW.trod enc Tryz.prog W 0 (fun _=>true) true n2 23 [c1]=some y1 from f1)
   obtain⟨ul,uo,un,uc,e2,hu1,hu2,hu3,-,hu5⟩:=Zuw (show DataW.trod enc Tryz.prog W 0 (fun _=>true) true n2 24 [c2]=some y2 from f2)
   subst e0 e1 e2 hq1 hm1 hu1
   exact⟨⟨ql,ml,ul⟩,_,rfl,⟨qo,qc,mo,mc,uo,uc,rfl,hq4,hm5,hu5,hu2⟩,⟨hq6,fun m hm=>(hm4 m hm).2,hq3,hm3,hu3⟩,hq5,fun m hm=>(hm4 m hm).1⟩
end
theorem Zzf {c:Crw} (hf:Z0i c=true) (hL:LenC c) (hb:∀ p∈c.qs,ByL p) (hm:∀ m∈c.ms,∀ b∈m.b,NmL b.n):CrwOk c∧c.us.length≤999∧c.ms.length≤65∧c.qs.length≤129:=by
 unfold Z0i at hf
 simp only[Bool.and_eq_true,List.all_eq_true] at hf
 obtain⟨⟨h1,h2⟩,h3⟩:=hf
 unfold Zee at h1
 simp only[Bool.and_eq_true,Bool.or_eq_true,decide_eq_true_eq] at h1
 refine⟨⟨fun p hp=>⟨hb p hp,?_⟩,fun m hmm=>⟨hm m hmm,?_,?_⟩,by omega,by omega,by omega⟩,by omega,by omega,by omega⟩
 ·have:=Zyr (h2 p hp);omega
 ·have:=h3 m hmm
  unfold Zus at this
  simp only[Bool.and_eq_true,decide_eq_true_eq] at this
  omega
 ·have:=h3 m hmm
  unfold Zus at this
  simp only[Bool.and_eq_true,decide_eq_true_eq] at this
  omega
end
section
open Go.RowKit Go.Sort Go.Maps
theorem Zuy (w:World) (c:Crw) (cs:List Value) (B:Nat) (u:Int) (ha:ArgC w c cs B) :
  Calls Tryz.prog 47 #[.agg cs.toArray,.int .i64 u] w fun e w'=>Below w.heap.size w w'∧∃ o cap,e = .returned (.slice o (Zlo c u).length cap)∧Zak Zbg w' o ((Zlo c u).map Int.ofNat):=by
 refine (Zwx w c cs B u ha).mono ?_
 intro e w' h
 unfold Zhd at h
 obtain⟨⟨o,cap,h1,h2⟩,hb⟩:=h
 exact⟨hb,o,cap,h1,Zcw h2 rfl⟩
end
section
open Go.RowKit Go.Sort Go.Maps
def shr (c:Crw) (u:Int) (k:Nat):Nat:=Zmh (Zar c (Zb4 c (Zas c) u.toNat k))
def Zdq (c:Crw) (u:Int):List Nat×Nat:=if (Zam c&&Zci u c.us.length)=true then (if (Zb3 (Zar c (Zas c))).2=0 then ((List.range c.ms.length).map (shr c u),0) else ([],(Zb3 (Zar c (Zas c))).2)) else ([],1)
def Zzg (w w':World) (l:List Nat) (n:Nat) (e:Ending):Prop:=Below w.heap.size w w'∧∃ o cap,e = .returned (.tuple #[.slice o l.length cap,.int .i64 (n:Int)])∧Zak Zbg w' o (l.map Int.ofNat)
theorem Ziu {T:Tbl} (h:(Zb3 T).2=0):∀ k,k<16→(Zct T k).length≤12:=by
 intro k hk
 unfold Zb3 at h
 split at h
 ·cases h
 ·rename_i h2
  rcases Nat.lt_or_ge 12 (Zct T k).length with h3 | h3
  ·exact absurd (List.any_eq_true.2 ⟨k,List.mem_range.2 hk,by simpa using h3⟩) h2
  ·exact h3
theorem Zjv {α:Type} (f:Nat→α) (k:Nat):(List.range (k+1)).map f=(List.range k).map f++[f k]:=by rw[List.range_succ,List.map_append];rfl
theorem Zol (w:World) (c:Crw) (cs:List Value) (B:Nat) (u:Int) (ha:ArgC w c cs B) :
  Calls Tryz.prog 43 #[.agg cs.toArray,.int .i64 u] w fun e w'=>Zzg w w' (Zdq c u).1 (Zdq c u).2 e:=by
 have HOP:=ħ (fun W (hW:Below w.heap.size w W)=>Zcv W c cs (ha.below hW).crw B (ha.below hW).tab ha.ok)
 have HNU:=ha.nu
 have HRK:=ħ (fun (h:Zam c=true)=>Zap h (by omega))
 have HVP:=ħ (fun (h:Zam c=true)=>Zao h)
 have hnq0:=ha.ok.nq
 have hnm0:=ha.ok.nm
 have HPA:Hid (Zdq c u=if (Zam c&&Zci u c.us.length)=true then (if (Zb3 (Zar c (Zas c))).2=0 then ((List.range c.ms.length).map (shr c u),0) else ([],(Zb3 (Zar c (Zas c))).2)) else ([],1)):=ħ rfl
 generalize Zdq c u=PA at *
 have HIX:Hid (Zci u c.us.length=inB u 0 ((c.us.length:Int)-1)):=ħ rfl
 have HIN:=ħ (fun h=>Zb2 (u:=u) (n:=c.us.length) h)
 obtain⟨qo,qc,mo,mc,uo,uc,rfl,hq0,hm0,hu0,-⟩:=ha.crw
 unfold Zvf at HOP
 clear ha hq0 hm0 hu0
 generalize hnq:c.qs.length=nq at *
 generalize hnm:c.ms.length=nm at *
 generalize hnu:c.us.length=nu at *
 have HQE:=ħ hnq
 have HME:=ħ hnm
 have HUE:=ħ hnu
 clear hnq hnm hnu
 generalize hvc:Zam c=vc at *
 have HVC:=ħ hvc
 clear hvc
 have X1:Hid (Zaf (w.alloc (.cells #[.slice qo nq qc,.slice mo nm mc,.slice uo nu uc] 26)) w.heap.size 26 [.slice qo nq qc,.slice mo nm mc,.slice uo nu uc]):=ħ (heap_alloc_new w _)
 have B1:=ħ ((Below.refl w.heap.size w).alloc (Nat.le_refl _) (.cells #[.slice qo nq qc,.slice mo nm mc,.slice uo nu uc] 26))
 go_enter Tryz.func43,Tryz.ntmps43
 go_upto_region 1 with (fail)
 generalize w.alloc (.cells #[.slice qo nq qc,.slice mo nm mc,.slice uo nu uc] 26)=w1 at *
 have c0:=X1.o.cell 0 _ rfl
 have c1:=X1.o.cell 1 _ rfl
 have c2:=X1.o.cell 2 _ rfl
 have HCL:=ħ (HOP.o w1 B1.o)
 clear HOP
 go_wp2_with fail
 refine HCL.o.mono ?_
 intro e w2 hq
 obtain⟨hres,b2⟩:=hq
 have B2:=ħ (B1.o.trans (b2.mono B1.o.size))
 have X2:=ħ (X1.o.step b2)
 clear b2 c0 c1 c2 B1 X1 HCL
 cases vc with
 | false =>
  rw[if_neg (by decide)] at hres
  subst hres
  have HPN:Hid (PA=([],1)):=ħ (by rw[HPA.o];rfl)
  clear HPA
  go_wp2_with fail
  go_ret2
  rw[HPN.o]
  exact⟨B2.o,none,0,rfl,.inl rfl⟩
 | true =>
  rw[if_pos rfl] at hres
  obtain⟨A,rfl,hR,-⟩:=hres
  have HR:=ħ hR
  have HOK:=ħ (HRK.o rfl)
  have hm64:nm≤64:=by exact (HVP.o rfl).2.1
  clear hR HRK
  have c2:=X2.o.cell 2 _ rfl
  have HWI:=ħ (Za1 u 0 ((nu:Int)-1) w2)
  rw[← HIX.o] at HWI
  have ew:IntKind.i64.wrap ((nu:Int)-1)=(nu:Int)-1:=IntWalk.i64_in _ (by omega)
  generalize hib:Zci u nu=ib at *
  have HIB:=ħ hib
  clear hib
  go_wp2_with fail
  refine HWI.o.mono ?_
  rintro e w3 ⟨rfl,rfl⟩
  clear HWI c2
  cases ib with
  | false =>
   have HPN:Hid (PA=([],1)):=ħ (by rw[HPA.o];rfl)
   clear HPA
   go_wp2_with fail
   go_ret2
   rw[HPN.o]
   exact⟨B2.o,none,0,rfl,.inl rfl⟩
  | true =>
   obtain⟨un,rfl,hun⟩:=HIN.o rfl
   have HPN:Hid (PA=if (Zb3 (Zar c (Zas c))).2=0 then ((List.range nm).map (shr c (un:Int)),0) else ([],(Zb3 (Zar c (Zas c))).2)):=ħ (by rw[HPA.o];rfl)
   clear HPA
   have HPO:=ħ (Zin w2 A c (Zaj c) (Zas c) HR.o HOK.o)
   have HGR:=ħ (fun h=>Ziu (T:=Zar c (Zas c)) h)
   have HFX:Hid (∀ k,k<nm→∀ W,Below w2.heap.size w2 W→Calls Tryz.prog 84 #[.pointer (some ⟨A,0,none⟩),.int .i64 (un:Int),.int .i64 (k:Int)] W fun e w'=>∃ X,e = .returned (.pointer (some ⟨X,0,none⟩))∧Za9 w' X c (Zaj c) (Zb4 c (Zas c) un k)∧W.heap.size≤X∧Below W.heap.size W w'):=ħ (fun k hk W hW =>
    Zlj W A c (Zaj c) (Zas c) un k (HR.o.below hW) (by rw[HOK.o.len,HUE.o];exact hun) (by rw[HME.o];exact hk) HOK.o.row (by rw[HOK.o.len,HUE.o];omega) (by rw[HME.o];omega))
   have HCT:=ħ (fun k W X (hX:Za9 W X c (Zaj c) (Zb4 c (Zas c) un k)) (hg:∀ k,k<16→(Zct (Zar c (Zas c)) k).length≤12)=>Znk W X c (Zaj c) (Zb4 c (Zas c) un k) hX (HOK.o.fix un k) hg)
   have HSH:Hid (∀ k,Zmh (Zar c (Zb4 c (Zas c) un k))=shr c (un:Int) k):=ħ (fun k=>rfl)
   have HSL:Hid (∀ k,shr c (un:Int) k≤1152921504606846977):=ħ (fun k=>by
    unfold shr
    have hwn:∀ v,v<c.us.length→(Zar c (Zb4 c (Zas c) un k)).win v<16:=fun v hv=>by
     obtain⟨g1,g2,g3⟩:=Zt3 (HOK.o.fix un k) hv
     omega
    rw[Zk5 _ hwn]
    exact Nat.min_le_left _ _)
   generalize (Zb3 (Zar c (Zas c))).1=CD at *
   obtain⟨CE,hce⟩:∃ x,(Zb3 (Zar c (Zas c))).2=x:=⟨_,rfl⟩
   rw[hce] at HPO HPN HGR
   clear hce
   generalize shr c (un:Int)=sf at *
   go_wp2_with fail
   refine HPO.o.mono ?_
   rintro e w3 ⟨rfl,b3⟩
   have B3:=ħ (B2.o.trans (b3.mono B2.o.size))
   have X3:=ħ (X2.o.step b3)
   have L3:=ħ b3
   clear b3 HPO X2
   by_cases hc0:CE=0
   ·subst hc0
    have HPN2:Hid (PA=((List.range nm).map sf,0)):=ħ (by rw[HPN.o,if_pos rfl])
    have HGG:=ħ (HGR.o rfl)
    have c1:=X3.o.cell 1 _ rfl
    clear HPN HGR
    go_upto_region 9 with (fail)
    clear c1 X3
    go_wp2_with fail
    go_loopw [39,10] (fun kv ov wr=>∃ (k:Nat) (o:Option Addr) (cap:Nat),kv = .int .i64 k∧ov = .slice o k cap∧k≤nm∧Hid (OwnK wr w2.heap.size 1 k cap (Za2 ((List.range k).map sf)) o)∧Hid (Below w2.heap.size w2 wr)) (fun k _ _=>(nm-intOf k).toNat)
    case atStart=>exact⟨0,none,0,rfl,rfl,by omega,ħ (.nil rfl rfl rfl),L3⟩
    case round =>
     clear B3 L3
     obtain⟨k,o,cap,rfl,rfl,hk,HO,L4⟩:=hrel
     have e2:IntKind.i64.wrap ((k:Int)+1)=((k+1:Nat):Int):=IntWalk.i64_in _ (by omega)
     by_cases hkn:k<nm
     ·have kk:(k:Int)<nm:=by omega
      have HC1:=ħ (HFX.o k hkn wr L4.o)
      have HNX:=ħ (Zjv sf k)
      have hsl:=HSL.o k
      go_wp2_with fail
      refine HC1.o.mono ?_
      clear HC1
      intro e w5 hq
      obtain⟨X,rfl,hX,-,hb5⟩:=hq
      have HB5:=ħ hb5
      have HCX:=ħ (HCT.o k w5 X hX HGG.o)
      rw[HSH.o k] at HCX
      clear hX hb5
      obtain⟨sv,hsv⟩:∃ x,sf k=x:=⟨_,rfl⟩
      rw[hsv] at HCX HNX hsl
      clear hsv
      go_wp2_with fail
      refine HCX.o.mono ?_
      clear HCX
      rintro e w6 ⟨rfl,hb6⟩
      have HB6:=ħ (HB5.o.trans (hb6.mono HB5.o.size))
      have O6:=ħ (HO.o.below HB6.o)
      have L6:=ħ (L4.o.trans (HB6.o.mono L4.o.size))
      clear hb6 HB5 HB6 HO L4
      go_upto_region 12 with (at_builtin;refine Zdj 33 3 (.int .i64 0) 1 8 Tryz.underlying33 Zbk rfl (by omega) (by omega) w6 w2.heap.size rfl (.tmp 42) (.tmp 48) rfl o cap k (Za2 ((List.range k).map sf)) ?q1 O6.o L6.o.size 1 1 #[.int .i64 (sv:Int)] 3 ?q2 rfl (by omega) ?q3 ?q4 ?_;(case q1=>rfl);(case q2=>rfl);(case q3=>simp[Value.oneCell']);(case q4=>omega);intro g5 off5 c5 wa o8 gr8 b8 or8;have O8:=ħ o8;have L8:=ħ (L6.o.trans b8);clear o8 gr8 b8 or8)
      go_wp2_with fail
      go_roundw
      case rel=>exact⟨k+1,_,_,by go_num,rfl,by omega,ħ (by rw[HNX.o,← Zbt];exact O8.o),L8⟩
      case measure=>simp only[intOf];omega
     ·have kk:¬ (k:Int)<nm:=by omega
      obtain rfl:nm=k:=by omega
      go_wp2_with fail
      go_ret2
      rw[HPN2.o]
      exact⟨B2.o.trans (L4.o.mono B2.o.size),o,cap,by rw[List.length_map,List.length_range];rfl,Zcw HO.o (by rw[List.length_map,List.length_range])⟩
   ·have hcb:(((CE:Nat):Int) != 0)=true:=by simp;omega
    have HPN2:Hid (PA=([],CE)):=ħ (by rw[HPN.o,if_neg hc0])
    clear HPN
    go_wp2_with fail
    go_ret2
    rw[HPN2.o]
    exact⟨B3.o,none,0,rfl,.inl rfl⟩
end
section
open Go.RowKit Go.Sort Go.Maps
theorem Zxn {P:Program} (w:World) (T ty E:TypeId) (i:TypeInfo) (hT:P.underlying T=some (.slice E)) (hi:P.info? E=some i) (b:Addr) (n cap:Nat) (x:Option Addr) (c:Nat) (hn:n≤cap) :
  (Builtin.append_ #[T,T] ty #[.slice (some b) n cap,.slice x 0 c]).run P w = .ok (.slice (some b) n cap) w:=by
 cases x<;>simp[Builtin.append_,run_underlying hT,sizeOf,typeInfo,hi,hn,Builtin.lenOf,Builtin.firstCells,loadCells,loadCellsFrom,storeCells]
theorem Z06 {α:Type} (f:α→List Value) {ops:Array Oper} {rest:List Oper} {o:Oper} {a:Act} {Q:Exit→Act→World→Prop} (T E:TypeId) (z:Value) (k bt:Nat)
  (hT:Tryz.prog.underlying T=some (.slice E)) (hE:(Tryz.prog.info? E).map (fun i=>(i.zero,i.size,i.bytes))=some (some z,k,bt)) (hz:z.cells.size=k) (hk:0<k) (hbt:bt≤1000) (hf:∀ x,(f x).length=k) (h1:∀ x,∀ u∈f x,u.oneCell'=true)
  (w1:World) (B:Nat) (hg:o.guard=none) (s x:Operand) (hop:o.op=Op.call { callee:=Callee.builtin Builtin.append,args:=#[s,x],argTypes:=#[T,T] })
  (b0:Addr) (cap n:Nat) (l:List α) (hs:a.eval s = .slice (some b0) n cap) (hO:OwnK w1 B k n cap (l.flatMap f) (some b0)) (hB:B≤w1.heap.size)
  (xo:Option Addr) (m c:Nat) (r:List α) (hx:a.eval x = .slice xo m c) (hm:m=r.length) (hr:Zak f w1 xo r)
  (b1:n+m≤1000000000)
  (hK:∀ g off cap' w',OwnK w' B k (n+m) cap' ((l++r).flatMap f) (some ⟨g,off,none⟩)→Below B w1 w'→wpList Tryz.prog ops Q rest (a.put o.dst (.slice (some ⟨g,off,none⟩) (n+m) cap')) w') :
  wpList Tryz.prog ops Q (o::rest) a w1:=by
 rcases Nat.eq_zero_or_pos m with h0 | h0
 ·have hr0:r=[]:=List.eq_nil_of_length_eq_zero (by omega)
  subst h0
  subst hr0
  obtain⟨i0,hi,hz0,hz1,hz2⟩:=Zes hE
  have hrun:=Zxn (P:=Tryz.prog) w1 T o.type E i0 hT hi b0 n cap xo c hO.len_le.1
  obtain⟨g0,o0,hb0⟩:∃ g off,b0=⟨g,off,none⟩:=by cases hO;exact⟨_,_,rfl⟩
  subst hb0
  refine wpList_plain hg fun K hK'=>?_
  unfold Oper.wp
  simp[execOp,hop,resolve,invoke,builtin,hs,hx,hrun,Result.andThen]
  exact hK' _ _ (hK g0 o0 cap w1 (by rw[List.append_nil];exact hO) (Below.refl _ _))
 ·rcases hr with hr | ⟨g,off,rfl,hgl,hrd⟩
  ·rw[hr] at hm;simp at hm;omega
  refine Z0s T E z k bt hT hE hz hk hbt w1 B hg s x hop (some b0) cap n (l.flatMap f) hs hO hB g off m c (r.flatMap f) hx ?_ h0 hrd ?_ b1 ?_
  ·rw[hm,List.length_flatMap,List.map_congr_left (fun x _=>hf x),List.map_const',List.sum_replicate_nat]
  ·intro u hu
   obtain⟨y,-,hy⟩:=List.mem_flatMap.1 hu
   exact h1 y u hy
  ·intro g' off' cap' w' ho hgr _
   refine hK g' off' cap' w' (by rw[List.flatMap_append];exact ho) ⟨hgr.os,hgr.tape,hgr.output,hgr.size,fun i hi=>?_⟩
   refine hgr.block i (Nat.lt_of_lt_of_le hi hB) (fun e=>?_)
   have:=(hO.blk_lt e.symm).1
   omega
theorem Zx4 {α:Type} (f:α→List Value) {ops:Array Oper} {rest:List Oper} {o:Oper} {a:Act} {Q:Exit→Act→World→Prop} (T E:TypeId) (z:Value) (k bt:Nat)
  (hT:Tryz.prog.underlying T=some (.slice E)) (hE:(Tryz.prog.info? E).map (fun i=>(i.zero,i.size,i.bytes))=some (some z,k,bt)) (hz:z.cells.size=k) (hk:0<k) (hbt:bt≤1000) (hf:∀ x,(f x).length=k) (h1:∀ x,∀ u∈f x,u.oneCell'=true)
  (w1:World) (B:Nat) (hg:o.guard=none) (s x:Operand) (hop:o.op=Op.call { callee:=Callee.builtin Builtin.append,args:=#[s,x],argTypes:=#[T,T] })
  (b0:Addr) (cap:Nat) (hs:a.eval s = .slice (some b0) 0 cap) (hO:OwnK w1 B k 0 cap [] (some b0)) (hB:B≤w1.heap.size)
  (xo:Option Addr) (m c:Nat) (r:List α) (hx:a.eval x = .slice xo m c) (hm:m=r.length) (hr:Zak f w1 xo r)
  (b1:m≤1000000)
  (hK:∀ g off cap' w',OwnK w' B k m cap' (r.flatMap f) (some ⟨g,off,none⟩)→Below B w1 w'→wpList Tryz.prog ops Q rest (a.put o.dst (.slice (some ⟨g,off,none⟩) m cap')) w') :
  wpList Tryz.prog ops Q (o::rest) a w1:=by
 refine Z06 f T E z k bt hT hE hz hk hbt hf h1 w1 B hg s x hop b0 cap 0 [] hs hO hB xo m c r hx hm hr (by omega) ?_
 intro g off cap' w' ho hb
 rw[Nat.zero_add] at ho ⊢
 exact hK g off cap' w' ho hb
theorem Zaf.off {w:World} {g:Nat} {t:TypeId} {cs:List Value} (h:Zaf w g t cs) {p:Addr} (hp:g≠p.block) (u:Value):Zaf (w.setCell p u) g t cs:=by
 unfold Zaf
 rw[Below.heap_setCell _ _ _ _ hp]
 exact h
theorem Z0j {w:World} {c:Crw} {qo mo uo:Option Addr} {qn mn un qc mc uc:Nat} (h:Zg5 w c [.slice qo qn qc,.slice mo mn mc,.slice uo un uc]):Zak Zb0 w uo c.us∧un=c.us.length∧un≤uc:=by
 obtain⟨qo',qc',mo',mc',uo',uc',he,h1,h2,h3,h4⟩:=h
 simp only[List.cons.injEq,Value.slice.injEq,and_true] at he
 obtain⟨⟨rfl,rfl,rfl⟩,⟨rfl,rfl,rfl⟩,rfl,rfl,rfl⟩:=he
 exact⟨h3,rfl,h4⟩
theorem Zp6 (x:Use):∀ u∈Zb0 x,u.oneCell'=true:=by
 intro u hu
 unfold Zb0 at hu
 simp only[List.mem_cons,List.not_mem_nil,or_false] at hu
 rcases hu with rfl | rfl | rfl | rfl<;>rfl
def Zrh (x:Use) (m:Int):Use:=⟨x.q,x.w,x.f,m⟩
theorem Zuz (l:List Use) (i:Nat) (b:Use) (hb:l[i]?=some b) (m:Int):(l.flatMap Zb0).set (i*4+3) (.int .i64 m)=(l.set i (Zrh b m)).flatMap Zb0:=by
 induction l generalizing i with
 | nil=>simp at hb
 | cons x l ih =>
  cases i with
  | zero =>
   simp only[List.getElem?_cons_zero,Option.some.injEq] at hb
   subst hb
   rfl
  | succ i =>
   rw[List.getElem?_cons_succ] at hb
   rw[List.set_cons_succ,List.flatMap_cons,List.flatMap_cons,← ih i hb]
   rw[List.set_append_right _ _ (by rw[Zaq];omega),Zaq]
   rw[show (i+1)*4+3-4=i*4+3 by omega]
theorem OwnK.setUse {w:World} {B n cap g off:Nat} {l:List Use} (h:OwnK w B 4 n cap (l.flatMap Zb0) (some ⟨g,off,none⟩)) {i:Nat} {b:Use} (hb:l[i]?=some b) (m:Int) :
  OwnK (w.setCell ⟨g,off+i*4+3,none⟩ (.int .i64 m)) B 4 n cap ((l.set i (Zrh b m)).flatMap Zb0) (some ⟨g,off,none⟩)∧w.frozen? ⟨g,off+i*4+3,none⟩=false∧B≤g:=by
 have hi:=(List.getElem?_eq_some_iff.1 hb).1
 have hlen:(l.flatMap Zb0).length=l.length*4:=by rw[List.length_flatMap,List.map_congr_left (fun x _=>Zaq x),List.map_const',List.sum_replicate_nat]
 have h1:=h.setAt (i*4+3) (by rw[hlen];omega) (.int .i64 m)
 obtain⟨-,-,h2,h3⟩:=h.reads
 have h4:=h.count
 have h5:=h.len_le.1
 rw[Zuz l i b hb m,← Nat.add_assoc] at h1
 refine⟨h1,?_,h2⟩
 have:=h3 (i*4+3) (by rw[hlen] at h4;omega)
 rwa [← Nat.add_assoc] at this
def Zom (c:Crw) (us:List Use):Crw:=⟨c.qs,c.ms,us⟩
theorem Zno {w:World} {c:Crw} {qo mo uo:Option Addr} {qn mn un qc mc uc B:Nat} (h:ArgC w c [.slice qo qn qc,.slice mo mn mc,.slice uo un uc] B) {us:List Use} {xo:Option Addr} {xc n:Nat} (hu:Zak Zb0 w xo us) (hn:n=us.length) (hl:n≤xc) (h9:us.length≤999):ArgC w (Zom c us) [.slice qo qn qc,.slice mo mn mc,.slice xo n xc] B:=by
 obtain⟨⟨qo',qc',mo',mc',uo',uc',he,h1,h2,h3,h4⟩,htab,hok,hnu⟩:=h
 simp only[List.cons.injEq,Value.slice.injEq,and_true] at he
 obtain⟨⟨rfl,rfl,rfl⟩,⟨rfl,rfl,rfl⟩,-,-,-⟩:=he
 exact⟨⟨_,_,_,_,_,_,by rw[hn];rfl,h1,h2,hu,by show us.length≤xc;omega⟩,htab,⟨hok.q,hok.m,hok.nq,hok.nm,by show us.length≤1000000;omega⟩,h9⟩
theorem Zri (c:Crw):Zam c=true↔c.qs.length≤128∧c.ms.length≤64∧c.us.length≤4096∧(∀ p∈c.qs,Zbp p=true)∧(∀ m∈c.ms,Zd4 m=true)∧∀ x∈c.us,Zcf c.qs.length c.ms.length x=true:=by
 constructor
 ·exact Zao
 ·rintro⟨h1,h2,h3,h4,h5,h6⟩
  unfold Zam
  rw[decide_eq_true h1,decide_eq_true h2,decide_eq_true h3]
  have e1:c.qs.any (fun q=>!Zbp q)=false:=by rw[List.any_eq_false];intro q hq;rw[h4 q hq];decide
  have e2:c.ms.any (fun m=>!Zd4 m)=false:=by rw[List.any_eq_false];intro q hq;rw[h5 q hq];decide
  have e3:c.us.any (fun x=>!Zcf c.qs.length c.ms.length x)=false:=by rw[List.any_eq_false];intro q hq;rw[h6 q hq];decide
  rw[e1,e2,e3];rfl
theorem Zon {c:Crw} {us:List Use} (h:Zam c=true) (hl:us.length≤4096) (hu:∀ x∈us,Zcf c.qs.length c.ms.length x=true):Zam (Zom c us)=true:=by
 obtain⟨h1,h2,h3,h4,h5,h6⟩:=Zao h
 exact (Zri _).2 ⟨h1,h2,hl,h4,h5,hu⟩
def Zjl (c:Crw) (u:Nat) (m:Int):Crw:=Zom c (c.us.set u (Zrh (c.us.getD u ⟨0,0,0,0⟩) m))
theorem Zzh {c:Crw} {u:Nat} (hu:u<c.us.length):c.us.getD u ⟨0,0,0,0⟩=c.us[u]:=by rw[List.getD_eq_getElem?_getD,List.getElem?_eq_getElem hu,Option.getD_some]
theorem Zrj {nq nm:Nat} {x:Use} (h:Zcf nq nm x=true) {m:Int} (h0:0≤m) (h1:m.toNat<nm):Zcf nq nm (Zrh x m)=true:=by
 unfold Zcf at *
 rw[Bool.and_eq_true,Bool.and_eq_true,Bool.and_eq_true] at *
 refine⟨h.1,?_⟩
 unfold inB Zrh
 rw[Bool.and_eq_true,decide_eq_true_eq,decide_eq_true_eq]
 show -1≤m∧m≤_
 omega
theorem Zrk {c:Crw} {u:Nat} {m:Int} (hv:Zam c=true) (hu:u<c.us.length) (h0:0≤m) (h1:m.toNat<c.ms.length):Zam (Zjl c u m)=true:=by
 obtain⟨g1,g2,g3,g4,g5,g6⟩:=Zao hv
 refine Zon hv (by rw[List.length_set];exact g3) (fun x hx=>?_)
 rcases List.mem_or_eq_of_mem_set hx with h | h
 ·exact g6 x h
 ·rw[h,Zzh hu]
  exact Zrj (g6 _ (List.getElem_mem hu)) h0 h1
theorem Zf3 (c:Crw) (u:Nat) (m:Int):(Zjl c u m).us.length=c.us.length:=by show (c.us.set u _).length=_;rw[List.length_set]
theorem Zzi (c:Crw) (H:List (List Bool)) (x:Use) {k:Nat} (hk:k<c.ms.length):(Zdr c H x).getD k false=Zrr c H x k:=by
 unfold Zdr
 rw[List.getD_eq_getElem?_getD,List.getElem?_map,List.getElem?_range hk];rfl
theorem Zoo {c:Crw} (us:List Use) {v:Nat} (hv:v<us.length) {k:Nat} (hk:k<c.ms.length):(Zar (Zom c us) (Zas (Zom c us))).can v k=Zrr c (Zaj c) (us.getD v ⟨0,0,0,0⟩) k:=by
 show ((us.map (Zdr c (Zaj c))).getD v []).getD k false=_
 have h1:(us.map (Zdr c (Zaj c))).getD v []=Zdr c (Zaj c) us[v]:=by rw[List.getD_eq_getElem?_getD,List.getElem?_map,List.getElem?_eq_getElem hv];rfl
 have h2:us.getD v ⟨0,0,0,0⟩=us[v]:=by rw[List.getD_eq_getElem?_getD,List.getElem?_eq_getElem hv];rfl
 rw[h1,h2,Zzi c _ _ hk]
theorem Zzj {c:Crw} (x:Use) (hx:x.h = -1) {m:Int} (h0:0≤m) (k:Nat):Zrr c (Zaj c) (Zrh x m) k=(Zrr c (Zaj c) x k&&decide (k=m.toNat)):=by
 unfold Zrr Zil Zrh
 rw[hx]
 have e1:(m == -1)=false:=by rw[beq_eq_false_iff_ne];omega
 have e2:(m==((k:Nat):Int))=decide (k=m.toNat):=by
  rw[Bool.eq_iff_iff,beq_iff_eq,decide_eq_true_eq];omega
 have e3:((-1:Int) == -1)=true:=rfl
 rw[e1,e2,e3,Bool.false_or,Bool.true_or,Bool.and_true]
theorem Zop {c:Crw} {u:Nat} {m:Int} (hok:ReckOk c (Zas c)) (hu:u<c.us.length) (hh:(c.us.getD u ⟨0,0,0,0⟩).h = -1) (h0:0≤m) (h1:m.toNat<c.ms.length) (v k:Nat) (hv:v<c.us.length) (hk:k<c.ms.length):(Zar (Zjl c u m) (Zas (Zjl c u m))).can v k=(Zar c (Zb4 c (Zas c) u m.toNat)).can v k∧(Zar (Zjl c u m) (Zas (Zjl c u m))).win v=(Zar c (Zas c)).win v:=by
 have hset:∀ v,v<c.us.length→(c.us.set u (Zrh (c.us.getD u ⟨0,0,0,0⟩) m)).getD v ⟨0,0,0,0⟩=if v=u then Zrh (c.us.getD u ⟨0,0,0,0⟩) m else c.us.getD v ⟨0,0,0,0⟩:=fun v hv=>by
  rw[List.getD_eq_getElem?_getD,List.getElem?_set]
  by_cases e:v=u
  ·subst e;rw[if_pos rfl,if_pos hu,if_pos rfl,Option.getD_some]
  ·rw[if_neg (fun h=>e h.symm),if_neg e,List.getD_eq_getElem?_getD]
 constructor
 ·have h2:=Zoo (c:=c) (c.us.set u (Zrh (c.us.getD u ⟨0,0,0,0⟩) m)) (v:=v) (by rw[List.length_set];exact hv) hk
  have h3:(Zar c (Zas c)).can v k=Zrr c (Zaj c) (c.us.getD v ⟨0,0,0,0⟩) k:=Zoo (c:=c) c.us hv hk
  have h4:(Zar c (Zas c)).can u m.toNat=Zrr c (Zaj c) (c.us.getD u ⟨0,0,0,0⟩) m.toNat:=Zoo (c:=c) c.us hu h1
  rw[Zgq hok hu v k hk,h3,h4]
  refine h2.trans ?_
  rw[hset v hv]
  by_cases e:v=u
  ·rw[if_pos e,if_pos e,Zzj _ hh h0]
   by_cases e2:k=m.toNat
   ·rw[← e2]
   ·rw[decide_eq_false e2,Bool.and_false,Bool.and_false]
  ·rw[if_neg e,if_neg e]
 ·show ((c.us.set u (Zrh (c.us.getD u ⟨0,0,0,0⟩) m)).getD v ⟨0,0,0,0⟩).w.toNat=(c.us.getD v ⟨0,0,0,0⟩).w.toNat
  rw[hset v hv]
  by_cases e:v=u
  ·subst e;rw[if_pos rfl];rfl
  ·rw[if_neg e]
theorem Znp {c:Crw} {C:List (List Bool)} (hok:ReckOk c C):∀ v,v<(Zar c C).U→(Zar c C).win v<16:=fun v hv=>by
 obtain⟨g1,g2,g3⟩:=Zt3 hok hv
 omega
theorem Zzk {c:Crw} {u:Nat} {m:Int} (hok:ReckOk c (Zas c)) (hu:u<c.us.length) (hh:(c.us.getD u ⟨0,0,0,0⟩).h = -1) (h0:0≤m) (h1:m.toNat<c.ms.length):Zhk (Zar (Zjl c u m) (Zas (Zjl c u m)))=Zhk (Zar c (Zb4 c (Zas c) u m.toNat)) :=
 Zo2 (Zf3 c u m) rfl (fun v k hv hk=>(Zop hok hu hh h0 h1 v k (by have hv:v<(Zjl c u m).us.length:=hv;rwa [Zf3] at hv) hk).1) (fun v hv=>(Zop hok hu hh h0 h1 v m.toNat (by have hv:v<(Zjl c u m).us.length:=hv;rwa [Zf3] at hv) h1).2) (fun m w _=>rfl)
theorem Zx5 {c:Crw} {u m:Nat} (hok:ReckOk c (Zas c)) (hu:u<c.us.length) (hm:m<c.ms.length):Zhk (Zar c (Zb4 c (Zas c) u m))≤Zhk (Zar c (Zas c)) :=
 Zr4 rfl (Nat.le_refl _) (fun v k hv hk h=>by
  rw[Zgq hok hu v k hk] at h
  by_cases e:v=u
  ·rw[if_pos e,Bool.and_eq_true,decide_eq_true_eq] at h
   rw[e,h.2];exact h.1
  ·rw[if_neg e] at h;exact h) (fun v _=>rfl) (fun m w _=>Nat.le_refl _)
theorem Zlx {T:Tbl} (hw:∀ v,v<T.U→T.win v<16) (h:(Zb3 T).2=0):Zhk T≤1152921504606846976∧Zb3 T=(Zhk T,0):=by
 have hm:Zba=1152921504606846977:=rfl
 unfold Zb3 at h ⊢
 split at h
 ·cases h
 ·rename_i h2
  rw[if_neg h2]
  rw[Zk5 T hw,hm] at *
  split at h
  ·cases h
  ·rename_i h3
   rw[if_neg h3]
   refine⟨by omega,?_⟩
   rw[Nat.min_eq_right (by omega)]
theorem Zzl {T:Tbl} (hw:∀ v,v<T.U→T.win v<16) (hg:∀ k,k<16→(Zct T k).length≤12) (h:Zhk T≤1152921504606846976):Zb3 T=(Zhk T,0):=by
 have hm:Zba=1152921504606846977:=rfl
 unfold Zb3
 rw[if_neg (fun h2=>by
  obtain⟨k,hk,h3⟩:=List.any_eq_true.1 h2
  have:=hg k (List.mem_range.1 hk)
  simp at h3
  omega),Zk5 T hw,hm,Nat.min_eq_right (by omega),if_neg (by omega)]
theorem Zoq {c:Crw} {u:Int} {k:Nat} (hok:ReckOk c (Zas c)) (hu:u.toNat<c.us.length) (hk:k<c.ms.length) (h:(Zb3 (Zar c (Zas c))).2=0):shr c u k=Zhk (Zar c (Zb4 c (Zas c) u.toNat k)):=by
 have h1:=(Zlx (Znp hok) h).1
 have h2:=Zx5 hok hu hk
 have hm:Zba=1152921504606846977:=rfl
 unfold shr
 rw[Zk5 _ (Znp (hok.fix _ _)),hm,Nat.min_eq_right (by omega)]
theorem Zu0 {c:Crw} (hn:c.us.length≤1000) (hv:Zam c=true) {u:Nat} (hu:u<c.us.length) (hh:(c.us.getD u ⟨0,0,0,0⟩).h = -1) {m:Nat} (hm:m<c.ms.length) (h:(Zb3 (Zar c (Zas c))).2=0):Zbe (Zjl c u m)=(shr c u m,0):=by
 have hok:=Zap hv hn
 have hv2:=Zrk (m:=(m:Int)) hv hu (by omega) (by exact hm)
 have hok2:=Zap hv2 (by rw[Zf3];exact hn)
 unfold Zbe
 rw[if_pos hv2]
 have h1:=Zoq (u:=(u:Int)) hok (by exact hu) hm h
 have h2:=Zzk (m:=(m:Int)) hok hu hh (by omega) (by exact hm)
 have h3:=Zx5 hok hu hm
 have h4:=(Zlx (Znp hok) h).1
 have h5:=Ziu h
 have hfix:Zar c (Zb4 c (Zas c) (u:Int).toNat m)=Zar c (Zb4 c (Zas c) u ((m:Nat):Int).toNat):=rfl
 have hg:∀ k,k<16→(Zct (Zar (Zjl c u (m:Int)) (Zas (Zjl c u (m:Int)))) k).length≤12:=fun k hk=>by
  refine Nat.le_trans (Nat.le_of_eq ?_) (h5 k hk)
  unfold Zct
  rw[show (Zar (Zjl c u (m:Int)) (Zas (Zjl c u (m:Int)))).U=c.us.length from Zf3 c u m]
  refine congrArg List.length (List.filter_congr (fun v hv=>?_))
  rw[(Zop hok hu hh (by omega) (by exact hm) v m (List.mem_range.1 hv) hm).2]
 have hfix2:Zar c (Zb4 c (Zas c) u ((m:Nat):Int).toNat)=Zar c (Zb4 c (Zas c) u m):=rfl
 rw[Zzl (Znp hok2) hg (by rw[h2,hfix2];omega),h2,h1,hfix]
theorem Zzm {c:Crw} {u:Nat} (hok:ReckOk c (Zas c)) (hu:u<c.us.length) (h:(Zb3 (Zar c (Zas c))).2=0):((List.range c.ms.length).map (shr c (u:Int))).sum=(Zb3 (Zar c (Zas c))).1∧(Zb3 (Zar c (Zas c))).1≤1152921504606846976:=by
 obtain⟨h1,h2⟩:=Zlx (Znp hok) h
 have h3:=Zr6 (T:=Zar c (Zas c)) (u:=u) hu
 rw[h2]
 refine⟨?_,h1⟩
 rw[← h3]
 refine Zay _ (fun m hm=>?_)
 have hm:m<c.ms.length:=List.mem_range.1 hm
 rw[Zoq (u:=(u:Int)) hok (by exact hu) hm h]
 exact Zo2 rfl rfl (fun v k hv hk=>by
  show (Zar c (Zb4 c (Zas c) u m)).can v k=_
  rw[Zgq hok hu v k hk];rfl) (fun v _=>rfl) (fun m w _=>rfl)
theorem Zzn {c:Crw} {u m:Nat} (hok:ReckOk c (Zas c)) (hu:u<c.us.length) (hm:m<c.ms.length) (h:(Zb3 (Zar c (Zas c))).2=0):decide (0<shr c (u:Int) m)=Zju c (Zas c) u m:=by
 rw[Zoq (u:=(u:Int)) hok (by exact hu) hm h,Zw1 hok hu hm,Bool.eq_iff_iff,decide_eq_true_eq,Zk2]
 exact Zvm
end
section
open Go.RowKit Go.Sort Go.Maps
structure ShrP (c:Crw) (mn v:Nat) (hl:Int) (sf SM:Nat→Nat) (CD CE:Nat) (pl:List Nat):Prop where
 s0:SM 0=0
 s1:∀ k,SM (k+1)=SM k+sf k
 le:∀ k,k≤mn→SM k≤1152921504606846976
 all:SM mn=CD
 pos:pl=(List.range mn).filter (fun m=>decide (0<sf m))
 opn:hl = -1→∀ m,m<mn→Zbe (Zjl c v m)=(sf m,0)
theorem Zxo (f:Nat→Nat) (n k:Nat) (h:k≤n):((List.range k).map f).sum≤((List.range n).map f).sum:=by
 obtain⟨d,rfl⟩:∃ d,n=k+d:=⟨n-k,by omega⟩
 clear h
 induction d with
 | zero=>exact Nat.le_refl _
 | succ d ih=>rw[show k+(d+1)=(k+d)+1 by omega,Zbd];omega
theorem Zzo {c:Crw} {v:Nat} (hn:c.us.length≤1000) (hv:Zam c=true) (hu:v<c.us.length) (h:(Zbe c).2=0):ShrP c c.ms.length v (c.us.getD v ⟨0,0,0,0⟩).h (shr c (v:Int)) (fun k=>((List.range k).map (shr c (v:Int))).sum) (Zbe c).1 (Zbe c).2 (Zlo c (v:Int))∧Zdq c (v:Int)=((List.range c.ms.length).map (shr c (v:Int)),0):=by
 have hok:=Zap hv hn
 have hce:Zbe c=Zb3 (Zar c (Zas c)):=by unfold Zbe;rw[if_pos hv]
 rw[hce] at h ⊢
 obtain⟨h1,h2⟩:=Zzm hok hu h
 refine⟨⟨rfl,fun k=>Zbd _ k,fun k hk=>?_,h1,?_,fun hh m hm=>Zu0 hn hv hu hh hm h⟩,?_⟩
 ·exact Nat.le_trans (Zxo _ _ _ hk) (by rw[h1];exact h2)
 ·unfold Zlo
  rw[hv,Zlr.2 ⟨by omega,by exact hu⟩,Bool.true_and,if_pos rfl]
  show (List.range c.ms.length).filter (Zju c (Zas c) v)=_
  refine List.filter_congr (fun m hm=>?_)
  rw[Zzn hok hu (List.mem_range.1 hm) h]
 ·unfold Zdq
  rw[hv,Zlr.2 ⟨by omega,by exact hu⟩,Bool.true_and,if_pos rfl,if_pos h]
theorem Zxp {c:Crw} {v:Nat} (hv:Zam c=true) (hu:v<c.us.length) (h:(Zbe c).2≠0):Zdq c (v:Int)=([],(Zbe c).2):=by
 have hce:Zbe c=Zb3 (Zar c (Zas c)):=by unfold Zbe;rw[if_pos hv]
 rw[hce] at h ⊢
 unfold Zdq
 rw[hv,Zlr.2 ⟨by omega,by exact hu⟩,Bool.true_and,if_pos rfl,if_neg h]
theorem Zor (w:World) (c:Crw) (cs:List Value) (B:Nat) (u:Int) (hcw:Zg5 w c cs) (hG:Tab w B) (hL:LenC c) (hby:∀ p∈c.qs,ByL p) (hnm:∀ m∈c.ms,∀ b∈m.b,NmL b.n) :
  Calls Tryz.prog 11 #[.agg cs.toArray,.int .i64 u] w fun e w'=>e = .returned (.bool true)∧Below w.heap.size w w':=by
 have HVC:=ħ (fun W (hc:Zg5 W c cs) (hT:Tab W B) (hok:CrwOk c)=>Zkm W c cs hc B hT hok)
 have HTB:=ħ (fun W (hW:Below w.heap.size w W)=>Zbj.step (w:=w) hG hW)
 have HCW:=ħ (fun W (hW:Below w.heap.size w W)=>hcw.below hW)
 have HFK:=ħ (fun hf=>Zzf (c:=c) hf hL hby hnm)
 have HFW:=ħ (fun W (hW:Below w.heap.size w W)=>Zxl W c cs (hcw.below hW) hL)
 have hun:=hL.nu
 have hmn:=hL.nm
 have hqn:=hL.nq
 obtain⟨qo,qc,mo,mc,uo,uc,rfl,-⟩:=hcw
 clear hL hby hnm hG
 generalize hqe:c.qs.length=qn at *
 generalize hme:c.ms.length=mn at *
 generalize hue:c.us.length=un at *
 have HUE:=ħ hue
 have HME:=ħ hme
 have HQE:=ħ hqe
 clear hue hme hqe
 have X1:Hid (Zaf (w.alloc (.cells #[.slice qo qn qc,.slice mo mn mc,.slice uo un uc] 26)) w.heap.size 26 [.slice qo qn qc,.slice mo mn mc,.slice uo un uc]):=ħ (heap_alloc_new w _)
 have B1:=ħ ((Below.refl w.heap.size w).alloc (Nat.le_refl _) (.cells #[.slice qo qn qc,.slice mo mn mc,.slice uo un uc] 26))
 go_enter Tryz.func11,Tryz.ntmps11
 go_upto_region 1 with (fail)
 generalize w.alloc (.cells #[.slice qo qn qc,.slice mo mn mc,.slice uo un uc] 26)=w1 at *
 go_wp2_with fail
 refine (Zur w1 B (HTB.o w1 B1.o)).mono ?_
 rintro e w2 ⟨rfl,b2⟩
 have X2:=ħ (X1.o.step b2)
 have B2:=ħ (B1.o.trans (b2.mono B1.o.size))
 clear b2 X1 B1
 go_upto_region 2 with (fail)
 go_wp2_with (refine wpList_load_row rfl 26 (.tmp 2) rfl (w.heap.size) ?x1 26 #[.slice qo qn qc,.slice mo mn mc,.slice uo un uc] (0,0) _ X2.o Tryz.underlying26 rfl (Zbu _ _ _) ?_;(case x1=>rfl))
 refine (HFW.o w2 B2.o).mono ?_
 rintro e w3 ⟨rfl,b3⟩
 have X3:=ħ (X2.o.step b3)
 have B3:=ħ (B2.o.trans (b3.mono B2.o.size))
 clear b3 X2 B2 HFW
 obtain⟨V,hV⟩:∃ V,Z0i c=V:=⟨_,rfl⟩
 rw[hV]
 have HV:=ħ hV
 clear hV
 cases V with
 | false =>
  go_wp2_with fail
  go_ret
  exact⟨rfl,B3.o⟩
 | true =>
  obtain⟨hok,h999,h65,h129⟩:=HFK.o HV.o
  have HOK:=ħ hok
  clear hok
  have HAG:=ħ (fun W (hW:Below w.heap.size w W)=>(⟨HCW.o W hW,HTB.o W hW,HOK.o,by rw[HUE.o];exact h999⟩:ArgC W c [.slice qo qn qc,.slice mo mn mc,.slice uo un uc] B))
  clear HFK HTB HCW HOK
  have HVC:=ħ (fun W (hW:Below w.heap.size w W)=>HVC.o W (HAG.o W hW).crw (HAG.o W hW).tab (HAG.o W hW).ok)
  go_wp2_with (refine Zbq (by rfl) 26 (.tmp 2) rfl (w.heap.size) ?x2 26 #[.slice qo qn qc,.slice mo mn mc,.slice uo un uc] (0,0) _ X3.o Tryz.underlying26 rfl (Zbu _ _ _) ?_;(case x2=>rfl))
  refine (HVC.o w3 B3.o).mono ?_
  rintro e w4 ⟨rfl,b4⟩
  have X4:=ħ (X3.o.step b4)
  have B4:=ħ (B3.o.trans (b4.mono B3.o.size))
  clear b4 X3 B3 HVC
  obtain⟨vv,hvv⟩:∃ x,Zam c=x:=⟨_,rfl⟩
  rw[hvv]
  cases vv with
  | false =>
   go_wp2_with fail
   go_ret
   exact⟨rfl,B4.o⟩
  | true =>
  have HVV:=ħ hvv
  clear hvv
  have c2:=X4.o.cell 2 _ rfl
  by_cases h2:u<0
  ·go_wp2_with fail
   go_ret
   exact⟨rfl,B4.o⟩
  by_cases h3:u≥(un:Int)
  ·go_wp2_with fail
   go_ret
   exact⟨rfl,B4.o⟩
  obtain⟨v,rfl⟩:∃ v:Nat,u=(v:Int):=⟨u.toNat,by omega⟩
  have hvu:v<un:=by omega
  have HCT:=ħ (fun W (hW:Below w.heap.size w W)=>Zhq W c _ B (HAG.o W hW))
  have HSH:=ħ (fun W (hW:Below w.heap.size w W)=>Zol W c _ B (v:Int) (HAG.o W hW))
  have HPO:=ħ (fun W (hW:Below w.heap.size w W)=>Zuy W c _ B (v:Int) (HAG.o W hW))
  have HUF:=ħ (fun W (hW:Below w.heap.size w W)=>(Z0j (HAG.o W hW).crw).1)
  have HPY:Hid ((Zbe c).2=0→ShrP c mn v (c.us.getD v ⟨0,0,0,0⟩).h (shr c (v:Int)) (fun k=>((List.range k).map (shr c (v:Int))).sum) (Zbe c).1 (Zbe c).2 (Zlo c (v:Int))∧Zdq c (v:Int)=((List.range mn).map (shr c (v:Int)),0)):=ħ (fun h=>by
   have:=Zzo (c:=c) (v:=v) (by rw[HUE.o];omega) HVV.o (by rw[HUE.o];exact hvu) h
   rwa [HME.o] at this)
  have HPN:Hid ((Zbe c).2≠0→Zdq c (v:Int)=([],(Zbe c).2)):=ħ (fun h=>Zxp HVV.o (by rw[HUE.o];exact hvu) h)
  obtain⟨CD,hcd⟩:∃ x,(Zbe c).1=x:=⟨_,rfl⟩
  obtain⟨CE,hce⟩:∃ x,(Zbe c).2=x:=⟨_,rfl⟩
  rw[hcd,hce] at HCT HPY
  rw[hce] at HPN
  clear hcd hce
  go_upto_region 4 with (fail)
  clear c2
  go_wp2_with (refine wpList_load_row rfl 26 (.tmp 2) rfl (w.heap.size) ?x3 26 #[.slice qo qn qc,.slice mo mn mc,.slice uo un uc] (0,0) _ X4.o Tryz.underlying26 rfl (Zbu _ _ _) ?_;(case x3=>rfl))
  refine (HCT.o w4 B4.o).mono ?_
  rintro e w5 ⟨rfl,b5⟩
  have X5:=ħ (X4.o.step b5)
  have B5:=ħ (B4.o.trans (b5.mono B4.o.size))
  clear b5 X4 B4 HCT
  go_upto_region 5 with (fail)
  go_wp2_with (refine wpList_load_row rfl 26 (.tmp 2) rfl (w.heap.size) ?x4 26 #[.slice qo qn qc,.slice mo mn mc,.slice uo un uc] (0,0) _ X5.o Tryz.underlying26 rfl (Zbu _ _ _) ?_;(case x4=>rfl))
  refine (HSH.o w5 B5.o).mono ?_
  intro e w6 hq
  obtain⟨b6,o6,c6,rfl,hf6⟩:=hq
  have X6:=ħ (X5.o.step b6)
  have B6:=ħ (B5.o.trans (b6.mono B5.o.size))
  have HF6:=ħ (fun W (hW:Below w6.heap.size w6 W)=>hf6.below hW)
  clear b6 X5 B5 HSH hf6
  go_upto_region 6 with (fail)
  go_wp2_with (refine wpList_load_row rfl 26 (.tmp 2) rfl (w.heap.size) ?x5 26 #[.slice qo qn qc,.slice mo mn mc,.slice uo un uc] (0,0) _ X6.o Tryz.underlying26 rfl (Zbu _ _ _) ?_;(case x5=>rfl))
  refine (HPO.o w6 B6.o).mono ?_
  rintro e w7 ⟨b7,po,pc,rfl,hf7⟩
  have X7:=ħ (X6.o.step b7)
  have B7:=ħ (B6.o.trans (b7.mono B6.o.size))
  have HF7:=ħ (fun W (hW:Below w7.heap.size w7 W)=>HF6.o W (b7.trans (hW.mono b7.size)))
  have HP7:=ħ (fun W (hW:Below w7.heap.size w7 W)=>hf7.below hW)
  clear b7 X6 B6 HPO hf7 HF6
  by_cases hc0:CE=0
  ·subst hc0
   obtain⟨hP,hsa⟩:=HPY.o rfl
   have HP:=ħ hP
   rw[hsa] at HF7 ⊢
   clear HPY HPN hP hsa
   obtain⟨pl,hpl⟩:∃ x,Zlo c (v:Int)=x:=⟨_,rfl⟩
   rw[hpl] at HP HP7 ⊢
   clear hpl
   obtain⟨hl,hhl⟩:∃ x,(c.us.getD v ⟨0,0,0,0⟩).h=x:=⟨_,rfl⟩
   rw[hhl] at HP
   have HHL:=ħ hhl
   clear hhl
   generalize shr c (v:Int)=sf at *
   generalize (fun k=>((List.range k).map sf).sum)=SM at *
   have HPS:=ħ HP.o.pos
   have HLN:Hid (((List.range mn).map sf).length=mn):=ħ (by rw[List.length_map,List.length_range])
   rw[HLN.o]
   have HLX:Hid (∀ k,k<mn→(((List.range mn).map sf).map Int.ofNat)[k]?=some ((sf k:Nat):Int)):=ħ (fun k hk=>by
    rw[List.getElem?_map,List.getElem?_map,List.getElem?_range hk];rfl)
   have hpn:pl.length≤65:=by
    rw[HPS.o]
    exact Nat.le_trans (Zbl _ _) h65
   have c1:=X7.o.cell 1 _ rfl
   have HBX:Hid (w.heap.size<w7.heap.size):=ħ X7.o.lt
   obtain⟨pn,hpn2⟩:∃ n,pl.length=n:=⟨_,rfl⟩
   have HPN2:=ħ hpn2
   rw[hpn2] at hpn ⊢
   clear hpn2
   go_upto_region 12 with (fail)
   clear c1
   have BM:=ħ ((Below.refl w7.heap.size w7).alloc (Nat.le_refl _) (.cells #[] 3))
   have XM:=ħ (X7.o.step BM.o)
   have OM:=ħ (OwnK.made w7 3 1)
   go_upto_region 13 with (fail)
   generalize w7.alloc (.cells #[] 3)=wm at *
   go_wp2_with fail
   go_loopw [11,12,13] (fun sv ov iv wr=>∃ (k n:Nat) (g o cap:Nat),sv = .int .i64 (SM k:Nat)∧ov = .slice (some ⟨g,o,none⟩) n cap∧iv = .int .i64 k∧k≤mn∧n≤k∧Hid (((List.range k).filter (fun m=>decide (0<sf m))).length=n)∧Hid (OwnK wr w7.heap.size 1 n cap (Za2 ((List.range k).filter (fun m=>decide (0<sf m)))) (some ⟨g,o,none⟩))∧Hid (Zaf wr w.heap.size 26 [.slice qo qn qc,.slice mo mn mc,.slice uo un uc])∧Hid (Below w7.heap.size w7 wr)) (fun _ _ i _=>(mn-intOf i).toNat)
   case atStart=>exact⟨0,0,w7.heap.size,0,0,by rw[HP.o.s0];rfl,rfl,rfl,by omega,Nat.le_refl _,ħ rfl,OM,XM,BM⟩
   case round =>
    clear OM XM BM X7
    obtain⟨k,n,gm,om,cm,rfl,rfl,rfl,hk,hnk,HN,OR,XR,LR⟩:=hrel
    have e2:IntKind.i64.wrap ((k:Int)+1)=((k+1:Nat):Int):=IntWalk.i64_in _ (by omega)
    by_cases hkn:k<mn
    ·have kk:(k:Int)<mn:=by omega
     have hs1:=HP.o.s1 k
     have hs2:=HP.o.le (k+1) hkn
     obtain⟨gl,ol,hol,hgl,a0⟩:=(HF7.o wr LR.o).int k _ (HLX.o k hkn)
     have HOL:=ħ hol
     subst hol
     have HFL:=ħ (fun W (hW:Below w7.heap.size w7 W)=>by
      obtain⟨gl',ol',hol',-,a'⟩:=(HF7.o W hW).int k _ (HLX.o k hkn)
      obtain⟨rfl,rfl⟩:gl=gl'∧ol=ol':=by simpa using hol'
      exact a')
     have es:IntKind.i64.wrap (((SM k:Nat):Int)+((sf k:Nat):Int))=((SM (k+1):Nat):Int):=by
      rw[hs1,Int.natCast_add]
      exact IntWalk.i64_in _ (by omega)
     have HNX:=ħ (Za8 (fun m=>decide (0<sf m)) k)
     have HOP:=ħ (fun h=>HP.o.opn h k hkn)
     clear hs1 hs2 hgl
     obtain⟨sv,hsv⟩:∃ x,sf k=x:=⟨_,rfl⟩
     rw[hsv] at a0 es HNX HOP HFL
     have HNX:Hid ((List.range (k+1)).filter (fun m=>decide (0<sf m))=if 0<sv then (List.range k).filter (fun m=>decide (0<sf m))++[k] else (List.range k).filter (fun m=>decide (0<sf m))):=ħ (by
      rw[Za8,hsv];simp)
     have HSV:=ħ hsv
     clear hsv
     by_cases hsp:0<sv
     ·have hsi:(0:Int)<((sv:Nat):Int):=by omega
      go_upto_region 19 with (at_builtin;refine Zdj 33 3 (.int .i64 0) 1 8 Tryz.underlying33 Zbk rfl (by omega) (by omega) wr w7.heap.size rfl (.tmp 94) (.tmp 96) rfl (some ⟨gm,om,none⟩) cm n (Za2 ((List.range k).filter (fun m=>decide (0<sf m)))) ?p1 OR.o LR.o.size 1 1 #[.int .i64 (k:Int)] 3 ?p2 rfl (by omega) ?p3 ?p4 ?_;(case p1=>rfl);(case p2=>rfl);(case p3=>simp[Value.oneCell']);(case p4=>omega);intro g3 off3 c3 wa o8 gr8 b8 or8;have OA:=ħ o8;have LA:=ħ (LR.o.trans b8);have XA:=ħ (XR.o.below b8 HBX.o);clear o8 gr8 b8 or8)
      clear OR LR XR a0
      have O1:Hid (Zaf (wa.alloc (.cells #[.slice none 0 0,.slice none 0 0,.slice none 0 0] 26)) wa.heap.size 26 [.slice none 0 0,.slice none 0 0,.slice none 0 0]):=ħ (heap_alloc_new wa _)
      have BO:=ħ ((Below.refl wa.heap.size wa).alloc (Nat.le_refl _) (.cells #[.slice none 0 0,.slice none 0 0,.slice none 0 0] 26))
      go_upto_region 20 with (first | (refine wpList_load_row rfl 26 (.tmp 2) rfl (w.heap.size) ?xl9 26 #[.slice qo qn qc,.slice mo mn mc,.slice uo un uc] (0,0) _ XA.o Tryz.underlying26 rfl (Zbu _ _ _) ?_;(case xl9=>rfl)) | (refine Zau rfl 26 (.tmp 14) (.tmp 98) rfl wa.heap.size #[.slice qo qn qc,.slice mo mn mc,.slice uo un uc] (by rfl) (by rfl) 26 _ O1.o (Zbu _ _ _) rfl (by simp[Value.oneCell']) ?_;intro w9 s9 u9;have S9:=ħ s9;have U9:=ħ u9;clear s9 u9))
      have A9:=ħ (U9.o.below BO.o (Nat.le_refl _))
      have S9:Hid (Zaf w9 wa.heap.size 26 [.slice qo qn qc,.slice mo mn mc,.slice uo un uc]):=ħ S9.o
      have X9:=ħ (XA.o.step A9.o)
      have L9:=ħ (LA.o.trans (A9.o.mono LA.o.size))
      have Z9:Hid (wa.heap.size<w9.heap.size):=ħ S9.o.lt
      clear O1 BO U9
      have B9:=ħ (B7.o.trans (L9.o.mono B7.o.size))
      have BE:=ħ ((Below.refl w9.heap.size w9).alloc (Nat.le_refl _) (.cells #[] 39))
      have XE:=ħ (X9.o.step BE.o)
      have SE:=ħ (S9.o.step BE.o)
      have c2:=XE.o.cell 2 _ rfl
      have OE:=ħ (OwnK.made w9 39 4)
      have FE:=ħ (HUF.o _ (B9.o.trans (BE.o.mono B9.o.size)))
      have KE:=BE.o.size
      go_upto_region 21 with (at_builtin;refine Zx4 Zb0 24 39 (.agg #[.int .i64 0,.int .i64 0,.int .i64 0,.int .i64 0]) 4 32 Tryz.underlying24 Zer rfl (by omega) (by omega) Zaq Zp6 (w9.alloc (.cells #[] 39)) w9.heap.size rfl (.tmp 99) (.tmp 101) rfl ⟨w9.heap.size,0,none⟩ 0 ?q1 OE.o KE uo un uc c.us ?q2 HUE.o.symm FE.o (by omega) ?_;(case q1=>rfl);(case q2=>rfl);intro g5 off5 c5 wq o8 b8;have O8:=ħ o8;have S8:=ħ (SE.o.below b8 Z9.o);have c8:=S8.o.cell 2 _ rfl;have f8:=S8.o.warm 2;have B8:=ħ b8;clear o8 b8)
      have SZ:Hid (Zaf (wq.setCell ⟨wa.heap.size,2,none⟩ (.slice (some ⟨g5,off5,none⟩) un c5)) (wa.heap.size) 26 [.slice qo qn qc,.slice mo mn mc,.slice (some ⟨g5,off5,none⟩) un c5]):=ħ (S8.o.set 2 _)
      have HG5:Hid (w9.heap.size≤g5):=ħ (O8.o.blk_lt rfl).1
      have OZ:=ħ (O8.o.setCell (p:=⟨wa.heap.size,2,none⟩) (.slice (some ⟨g5,off5,none⟩) un c5) (fun e=>by
       have e:g5=wa.heap.size:=Option.some.inj e
       have:=HG5.o
       have:=Z9.o
       omega))
      have AZ:=ħ (((A9.o.trans ((BE.o.trans B8.o).mono A9.o.size))).setCell (p:=⟨wa.heap.size,2,none⟩) (Nat.le_refl _) (.slice (some ⟨g5,off5,none⟩) un c5))
      clear S8 O8 B8 c8 f8 OE SE XE FE BE KE c2 S9 X9 B9 L9 A9
      generalize wq.setCell ⟨wa.heap.size,2,none⟩ (.slice (some ⟨g5,off5,none⟩) un c5)=wz at *
      have LZ:=ħ (LA.o.trans (AZ.o.mono LA.o.size))
      have BZ:=ħ (B7.o.trans (LZ.o.mono B7.o.size))
      have XZ:=ħ (XA.o.step AZ.o)
      have MZ:=ħ (OA.o.below AZ.o)
      have ZX:Hid (wa.heap.size<g5):=ħ (Nat.lt_of_lt_of_le Z9.o HG5.o)
      obtain⟨x,hx⟩:∃ x,c.us[v]?=some x:=⟨_,List.getElem?_eq_getElem (by rw[HUE.o];exact hvu)⟩
      have hxh:x.h=hl:=by rw[← HHL.o,List.getD_eq_getElem?_getD,hx,Option.getD_some]
      have HXX:=ħ hx
      obtain⟨g6,o6,hp6,hg6,hr6⟩:=(OZ.o.flatR Zaq HUE.o.symm).at Zaq v x hx
      obtain⟨rfl,rfl⟩:g5=g6∧off5=o6:=by simpa using hp6
      have z3:=hr6 3 _ rfl
      have z0:=SZ.o.cell 2 _ rfl
      rw[hxh] at z3
      clear hr6 hp6 hx hxh Z9
      by_cases hh:hl = -1
      ·subst hh
       obtain⟨OY,f3,-⟩:=OZ.o.setUse HXX.o (k:Int)
       have OY:=ħ OY
       have SY:=ħ (SZ.o.off (p:=⟨g5,off5+v*4+3,none⟩) (fun e=>by have e:wa.heap.size=g5:=e;have:=ZX.o;omega) (.int .i64 (k:Int)))
       have AY:=ħ (AZ.o.setCell (p:=⟨g5,off5+v*4+3,none⟩) (by show wa.heap.size≤g5;have:=ZX.o;omega) (.int .i64 (k:Int)))
       go_upto_region 23 with (fail)
       clear z3 z0 f3 OZ SZ AZ LZ XZ MZ hg6
       generalize wz.setCell ⟨g5,off5+v*4+3,none⟩ (.int .i64 (k:Int))=wy at *
       have LY:=ħ (LA.o.trans (AY.o.mono LA.o.size))
       have BY:=ħ (B7.o.trans (LY.o.mono B7.o.size))
       have XY:=ħ (XA.o.step AY.o)
       have MY:=ħ (OA.o.below AY.o)
       have HOC:Hid (Zjl c v (k:Int)=Zom c (c.us.set v (Zrh x (k:Int)))):=ħ (by unfold Zjl;rw[List.getD_eq_getElem?_getD,HXX.o,Option.getD_some])
       have HK:=ħ (Zhq wy (Zjl c v (k:Int)) _ B (by
        rw[HOC.o]
        exact Zno (HAG.o wy BY.o) (OY.o.flatR Zaq (by rw[List.length_set];exact HUE.o.symm)) (by rw[List.length_set];exact HUE.o.symm) OY.o.len_le.1 (by rw[List.length_set,HUE.o];exact h999)))
       rw[HOP.o rfl] at HK
       clear AY BY OA LA XA
       go_wp2_with (refine wpList_load_row rfl 26 (.tmp 14) rfl (wa.heap.size) ?xk 26 #[.slice qo qn qc,.slice mo mn mc,.slice (some ⟨g5,off5,none⟩) un c5] (0,0) _ SY.o Tryz.underlying26 rfl (Zbu _ _ _) ?_;(case xk=>rfl))
       refine HK.o.mono ?_
       rintro e w11 ⟨rfl,b11⟩
       have LQ:=ħ (LY.o.trans (b11.mono LY.o.size))
       have XQ:=ħ (XY.o.step b11)
       have OQ:=ħ (MY.o.below b11)
       have a1:=HFL.o w11 LQ.o
       have hne:(((sv:Nat):Int) != ((sv:Nat):Int))=false:=by simp
       clear b11 LY XY MY SY OY HK
       go_wp2_with fail
       go_roundw
       case rel=>exact⟨k+1,n+1,g3,off3,c3,rfl,rfl,by go_num,by omega,by omega,ħ (by rw[HNX.o,if_pos hsp];rw[List.length_append,HN.o];rfl),ħ (by rw[HNX.o,if_pos hsp,← Zbt];exact OQ.o),XQ,LQ⟩
       case measure=>simp only[intOf];omega
      ·have hhb:(hl != -1)=true:=by simpa using hh
       have LQ:=LZ
       have XQ:=XZ
       have OQ:=MZ
       go_wp2_with fail
       go_roundw
       case rel=>exact⟨k+1,n+1,g3,off3,c3,rfl,rfl,by go_num,by omega,by omega,ħ (by rw[HNX.o,if_pos hsp];rw[List.length_append,HN.o];rfl),ħ (by rw[HNX.o,if_pos hsp,← Zbt];exact OQ.o),XQ,LQ⟩
       case measure=>simp only[intOf];omega
     ·have hsi:¬ (0:Int)<((sv:Nat):Int):=by omega
      go_upto_region 19 with (fail)
      have OA:=OR
      have LA:=LR
      have XA:=XR
      clear OR LR XR a0
      have O1:Hid (Zaf (wr.alloc (.cells #[.slice none 0 0,.slice none 0 0,.slice none 0 0] 26)) wr.heap.size 26 [.slice none 0 0,.slice none 0 0,.slice none 0 0]):=ħ (heap_alloc_new wr _)
      have BO:=ħ ((Below.refl wr.heap.size wr).alloc (Nat.le_refl _) (.cells #[.slice none 0 0,.slice none 0 0,.slice none 0 0] 26))
      go_upto_region 20 with (first | (refine wpList_load_row rfl 26 (.tmp 2) rfl (w.heap.size) ?xl9 26 #[.slice qo qn qc,.slice mo mn mc,.slice uo un uc] (0,0) _ XA.o Tryz.underlying26 rfl (Zbu _ _ _) ?_;(case xl9=>rfl)) | (refine Zau rfl 26 (.tmp 14) (.tmp 98) rfl wr.heap.size #[.slice qo qn qc,.slice mo mn mc,.slice uo un uc] (by rfl) (by rfl) 26 _ O1.o (Zbu _ _ _) rfl (by simp[Value.oneCell']) ?_;intro w9 s9 u9;have S9:=ħ s9;have U9:=ħ u9;clear s9 u9))
      have A9:=ħ (U9.o.below BO.o (Nat.le_refl _))
      have S9:Hid (Zaf w9 wr.heap.size 26 [.slice qo qn qc,.slice mo mn mc,.slice uo un uc]):=ħ S9.o
      have X9:=ħ (XA.o.step A9.o)
      have L9:=ħ (LA.o.trans (A9.o.mono LA.o.size))
      have Z9:Hid (wr.heap.size<w9.heap.size):=ħ S9.o.lt
      clear O1 BO U9
      have B9:=ħ (B7.o.trans (L9.o.mono B7.o.size))
      have BE:=ħ ((Below.refl w9.heap.size w9).alloc (Nat.le_refl _) (.cells #[] 39))
      have XE:=ħ (X9.o.step BE.o)
      have SE:=ħ (S9.o.step BE.o)
      have c2:=XE.o.cell 2 _ rfl
      have OE:=ħ (OwnK.made w9 39 4)
      have FE:=ħ (HUF.o _ (B9.o.trans (BE.o.mono B9.o.size)))
      have KE:=BE.o.size
      go_upto_region 21 with (at_builtin;refine Zx4 Zb0 24 39 (.agg #[.int .i64 0,.int .i64 0,.int .i64 0,.int .i64 0]) 4 32 Tryz.underlying24 Zer rfl (by omega) (by omega) Zaq Zp6 (w9.alloc (.cells #[] 39)) w9.heap.size rfl (.tmp 99) (.tmp 101) rfl ⟨w9.heap.size,0,none⟩ 0 ?q1 OE.o KE uo un uc c.us ?q2 HUE.o.symm FE.o (by omega) ?_;(case q1=>rfl);(case q2=>rfl);intro g5 off5 c5 wq o8 b8;have O8:=ħ o8;have S8:=ħ (SE.o.below b8 Z9.o);have c8:=S8.o.cell 2 _ rfl;have f8:=S8.o.warm 2;have B8:=ħ b8;clear o8 b8)
      have SZ:Hid (Zaf (wq.setCell ⟨wr.heap.size,2,none⟩ (.slice (some ⟨g5,off5,none⟩) un c5)) (wr.heap.size) 26 [.slice qo qn qc,.slice mo mn mc,.slice (some ⟨g5,off5,none⟩) un c5]):=ħ (S8.o.set 2 _)
      have HG5:Hid (w9.heap.size≤g5):=ħ (O8.o.blk_lt rfl).1
      have OZ:=ħ (O8.o.setCell (p:=⟨wr.heap.size,2,none⟩) (.slice (some ⟨g5,off5,none⟩) un c5) (fun e=>by
       have e:g5=wr.heap.size:=Option.some.inj e
       have:=HG5.o
       have:=Z9.o
       omega))
      have AZ:=ħ (((A9.o.trans ((BE.o.trans B8.o).mono A9.o.size))).setCell (p:=⟨wr.heap.size,2,none⟩) (Nat.le_refl _) (.slice (some ⟨g5,off5,none⟩) un c5))
      clear S8 O8 B8 c8 f8 OE SE XE FE BE KE c2 S9 X9 B9 L9 A9
      generalize wq.setCell ⟨wr.heap.size,2,none⟩ (.slice (some ⟨g5,off5,none⟩) un c5)=wz at *
      have LZ:=ħ (LA.o.trans (AZ.o.mono LA.o.size))
      have BZ:=ħ (B7.o.trans (LZ.o.mono B7.o.size))
      have XZ:=ħ (XA.o.step AZ.o)
      have MZ:=ħ (OA.o.below AZ.o)
      have ZX:Hid (wr.heap.size<g5):=ħ (Nat.lt_of_lt_of_le Z9.o HG5.o)
      obtain⟨x,hx⟩:∃ x,c.us[v]?=some x:=⟨_,List.getElem?_eq_getElem (by rw[HUE.o];exact hvu)⟩
      have hxh:x.h=hl:=by rw[← HHL.o,List.getD_eq_getElem?_getD,hx,Option.getD_some]
      have HXX:=ħ hx
      obtain⟨g6,o6,hp6,hg6,hr6⟩:=(OZ.o.flatR Zaq HUE.o.symm).at Zaq v x hx
      obtain⟨rfl,rfl⟩:g5=g6∧off5=o6:=by simpa using hp6
      have z3:=hr6 3 _ rfl
      have z0:=SZ.o.cell 2 _ rfl
      rw[hxh] at z3
      clear hr6 hp6 hx hxh Z9
      by_cases hh:hl = -1
      ·subst hh
       obtain⟨OY,f3,-⟩:=OZ.o.setUse HXX.o (k:Int)
       have OY:=ħ OY
       have SY:=ħ (SZ.o.off (p:=⟨g5,off5+v*4+3,none⟩) (fun e=>by have e:wr.heap.size=g5:=e;have:=ZX.o;omega) (.int .i64 (k:Int)))
       have AY:=ħ (AZ.o.setCell (p:=⟨g5,off5+v*4+3,none⟩) (by show wr.heap.size≤g5;have:=ZX.o;omega) (.int .i64 (k:Int)))
       go_upto_region 23 with (fail)
       clear z3 z0 f3 OZ SZ AZ LZ XZ MZ hg6
       generalize wz.setCell ⟨g5,off5+v*4+3,none⟩ (.int .i64 (k:Int))=wy at *
       have LY:=ħ (LA.o.trans (AY.o.mono LA.o.size))
       have BY:=ħ (B7.o.trans (LY.o.mono B7.o.size))
       have XY:=ħ (XA.o.step AY.o)
       have MY:=ħ (OA.o.below AY.o)
       have HOC:Hid (Zjl c v (k:Int)=Zom c (c.us.set v (Zrh x (k:Int)))):=ħ (by unfold Zjl;rw[List.getD_eq_getElem?_getD,HXX.o,Option.getD_some])
       have HK:=ħ (Zhq wy (Zjl c v (k:Int)) _ B (by
        rw[HOC.o]
        exact Zno (HAG.o wy BY.o) (OY.o.flatR Zaq (by rw[List.length_set];exact HUE.o.symm)) (by rw[List.length_set];exact HUE.o.symm) OY.o.len_le.1 (by rw[List.length_set,HUE.o];exact h999)))
       rw[HOP.o rfl] at HK
       clear AY BY OA LA XA
       go_wp2_with (refine wpList_load_row rfl 26 (.tmp 14) rfl (wr.heap.size) ?xk 26 #[.slice qo qn qc,.slice mo mn mc,.slice (some ⟨g5,off5,none⟩) un c5] (0,0) _ SY.o Tryz.underlying26 rfl (Zbu _ _ _) ?_;(case xk=>rfl))
       refine HK.o.mono ?_
       rintro e w11 ⟨rfl,b11⟩
       have LQ:=ħ (LY.o.trans (b11.mono LY.o.size))
       have XQ:=ħ (XY.o.step b11)
       have OQ:=ħ (MY.o.below b11)
       have a1:=HFL.o w11 LQ.o
       have hne:(((sv:Nat):Int) != ((sv:Nat):Int))=false:=by simp
       clear b11 LY XY MY SY OY HK
       go_wp2_with fail
       go_roundw
       case rel=>exact⟨k+1,n,gm,om,cm,rfl,rfl,by go_num,by omega,by omega,ħ (by rw[HNX.o,if_neg hsp];exact HN.o),ħ (by rw[HNX.o,if_neg hsp];exact OQ.o),XQ,LQ⟩
       case measure=>simp only[intOf];omega
      ·have hhb:(hl != -1)=true:=by simpa using hh
       have LQ:=LZ
       have XQ:=XZ
       have OQ:=MZ
       go_wp2_with fail
       go_roundw
       case rel=>exact⟨k+1,n,gm,om,cm,rfl,rfl,by go_num,by omega,by omega,ħ (by rw[HNX.o,if_neg hsp];exact HN.o),ħ (by rw[HNX.o,if_neg hsp];exact OQ.o),XQ,LQ⟩
       case measure=>simp only[intOf];omega
    ·have kk:¬ (k:Int)<mn:=by omega
     obtain rfl:mn=k:=by omega
     have hcd:SM mn=CD:=HP.o.all
     have hee:((((SM mn:Nat):Int))==((CD:Nat):Int))=true:=by rw[hcd];simp
     have B8:=ħ (B7.o.trans (LR.o.mono B7.o.size))
     have HSM:=Zip wr (((List.range mn).filter (fun m=>decide (0<sf m))).map Int.ofNat) (pl.map Int.ofNat) (some ⟨gm,om,none⟩) po cm pc (Zcw OR.o HN.o.symm) (HP7.o wr LR.o) (by rw[List.length_map,HN.o];omega)
     rw[List.length_map,HN.o,List.length_map,HPN2.o,← HPS.o,decide_eq_true rfl] at HSM
     go_wp2_with fail
     refine HSM.mono ?_
     rintro e w12 ⟨rfl,b12⟩
     have B12:=ħ (B8.o.trans (b12.mono B8.o.size))
     go_wp2_with fail
     go_ret
     exact⟨rfl,B12.o⟩
  ·have hcb:(((CE:Nat):Int) != 0)=true:=by simp;omega
   have hcs:(((CE:Nat):Int) != ((CE:Nat):Int))=false:=by simp
   have hct:(((CE:Nat):Int)==((CE:Nat):Int))=true:=by simp
   rw[HPN.o hc0]
   go_wp2_with fail
   go_ret
   exact⟨rfl,B7.o⟩
end
end Go.Proofs.YtbcgocpihobjnaaGreatDoor
