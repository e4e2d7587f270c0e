import Derived.Test.YtbcgocpihobjnaaGreatDoorCH44
import Derived.Test.YtbcgocpihobjnaaGreatDoorCH41
import Derived.Test.YtbcgocpihobjnaaGreatDoorCH39
import Derived.Test.YtbcgocpihobjnaaGreatDoorCH34
import Derived.Test.YtbcgocpihobjnaaGreatDoorCH38
set_option linter.unusedVariables false
set_option linter.unusedSimpArgs false
set_option maxHeartbeats 32000000
set_option maxRecDepth 100000
namespace Go.Proofs.YtbcgocpihobjnaaGreatDoor
section
open Go Go.ChangeShapes Go.WideShapes Go.ChangeAt Go.WideMaps Go.WideElems Go.RowKit
theorem Z0r:Tryz.prog.cellsOf 44=3:=by kernel_rfl
theorem Zz9:Tryz.prog.cellsOf 39=4:=by kernel_rfl
theorem cLP:Tryz.prog.cellsOf 22=1:=by kernel_rfl
theorem cLB:Tryz.prog.cellsOf 42=1:=by kernel_rfl
theorem cLI:Tryz.prog.cellsOf 33=1:=by kernel_rfl
theorem cLM:Tryz.prog.cellsOf 23=1:=by kernel_rfl
theorem cLS:Tryz.prog.cellsOf 24=1:=by kernel_rfl
instance:Inhabited Use:=⟨⟨0,0,0,0⟩⟩
instance:Inhabited Wsh:=⟨⟨0,0⟩⟩
instance:Inhabited Mem:=⟨⟨[],[],0⟩⟩
section
variable {H:Type} {enc:TypeId×Value→H} {W:World}
theorem Ztt {fuel:Nat} {v:Value} {y:DataW H×List MemPlace} (h:DataW.trod enc Tryz.prog W 0 (fun _=>true) true fuel 33 [v]=some y) :
  ∃ (l:List Int) (ao:Option Addr) (n c:Nat),v = .slice ao n c∧n=l.length∧n≤c∧n≤9223372036854775807∧Zaj Zbd W ao l:=by
 obtain⟨ao,n,c,e4,hmc,hcm,hel⟩:=Zb6 Tryz.underlying33 cI (by decide) h
 have hlen:n≤9223372036854775807:=Nat.le_trans hmc (Nat.le_trans hcm (by decide))
 rcases hel with h0 | ⟨g,off,n',h1,h2,h3,h4⟩
 ·exact⟨[],ao,n,c,e4,h0,hmc,hlen,.inl rfl⟩
 ·obtain⟨l,hl,hk⟩:=Zc9 (α:=Int) n (fun i x=>W.cell? ⟨g,off+i,none⟩=some (.int .i64 x)) (fun i hi=>by
   obtain⟨cs,y,h5,h6,h7⟩:=h4 i hi
   match cs,h5 with
   | [c0],_ =>
    obtain⟨k,e0,-,-⟩:=DataW.trod_int Tryz.underlying3 h7
    simp only[List.cons.injEq,and_true] at e0
    subst e0
    have:=h6 0 _ rfl
    rw[Nat.mul_one,Nat.add_zero] at this
    exact⟨k,this⟩)
  refine⟨l,ao,n,c,e4,hl.symm,hmc,hlen,.inr ⟨g,off,h1,h2,fun j u hj=>?_⟩⟩
  rw[← Zd3,ivs,List.getElem?_map] at hj
  obtain⟨x,hx,rfl⟩:=Option.map_eq_some_iff.1 hj
  exact hk j x hx
theorem Ztu {fuel:Nat} {v:Value} {y:DataW H×List MemPlace} (h:DataW.trod enc Tryz.prog W 0 (fun _=>true) true fuel 22 [v]=some y) :
  ∃ (l:List Prd) (ao:Option Addr) (n c:Nat),v = .slice ao n c∧n=l.length∧n≤c∧n≤9223372036854775807∧Zeq W (fun _=>True) l ao∧(∀ p∈l,ByL p)∧(∀ p∈l,Zr1 p):=by
 obtain⟨ao,n,c,e4,hmc,hcm,hel⟩:=Zb6 Tryz.underlying22 cP (by decide) h
 have hlen:n≤9223372036854775807:=Nat.le_trans hmc (Nat.le_trans hcm (by decide))
 rcases hel with h0 | ⟨g,off,n',h1,h2,h3,h4⟩
 ·exact⟨[],ao,n,c,e4,h0,hmc,hlen,.inl rfl,by simp,by simp⟩
 ·obtain⟨ks,hkl,hk⟩:=Zc9 (α:=Prd) n (fun i p=>(∃ vs,Zam W (fun g=>g<W.heap.size) p vs∧Zau W g (off+i*5) vs)∧ByL p∧Zr1 p) (fun i hi=>by
   obtain⟨cs,y,h5,h6,h7⟩:=h4 i hi
   obtain⟨p,hp1,hp2,hp3⟩:=Zs3 n' cs y h7
   exact⟨p,⟨cs,hp1,h6⟩,hp2,hp3⟩)
  have hpr:Zeq W (fun g=>g<W.heap.size) ks ao:=.inr ⟨g,off,h1,h2,h2,Zjy ks g off (fun i p hp=>(hk i p hp).1)⟩
  refine⟨ks,ao,n,c,e4,hkl.symm,hmc,hlen,hpr.mono (fun _ _ _=>trivial),fun q hq=>?_,fun q hq=>?_⟩
  ·obtain⟨i,hi⟩:=List.mem_iff_getElem?.1 hq
   exact (hk i q hi).2.1
  ·obtain⟨i,hi⟩:=List.mem_iff_getElem?.1 hq
   exact (hk i q hi).2.2
theorem Ztv {fuel:Nat} {v:Value} {y:DataW H×List MemPlace} (h:DataW.trod enc Tryz.prog W 0 (fun _=>true) true fuel 42 [v]=some y) :
  ∃ (l:List Bnd) (ao:Option Addr) (n c:Nat),v = .slice ao n c∧n=l.length∧n≤c∧n≤9223372036854775807∧(∀ b∈l,NmL b.n)∧Zaj Zw3 W ao l:=by
 obtain⟨ao,n,c,e4,hmc,hcm,hel⟩:=Zb6 Tryz.underlying42 cB (by decide) h
 have hlen:n≤9223372036854775807:=Nat.le_trans hmc (Nat.le_trans hcm (by decide))
 rcases hel with h0 | ⟨g,off,n',h1,h2,h3,h4⟩
 ·exact⟨[],ao,n,c,e4,h0,hmc,hlen,by simp,.inl rfl⟩
 ·obtain⟨l,hl,hk⟩:=Zc9 (α:=Bnd) n (fun i b=>(NmL b.n)∧Zau W g (off+i*2) (Zw3 b)) (fun i hi=>by
   obtain⟨cs,y,h5,h6,h7⟩:=h4 i hi
   obtain⟨xs,n2,hn,-,hl,hxl,hf⟩:=DataW.trod_struct Tryz.underlying164 h7
   match cs,h5 with
   | [c0,c1],_ =>
    match xs,hxl with
    | [y0,y1],_ =>
     have f0:DataW.trod enc Tryz.prog W 0 (fun _=>true) true n2 9 (([c0,c1]:List Value).drop 0 |>.take (Tryz.prog.cellsOf 9))=some y0:=hf 0 _ rfl
     have f1:DataW.trod enc Tryz.prog W 0 (fun _=>true) true n2 3 (([c0,c1]:List Value).drop 1 |>.take (Tryz.prog.cellsOf 3))=some y1:=hf 1 _ rfl
     rw[cS] at f0
     rw[cI] at f1
     obtain⟨s0,e0,-,z0⟩:=DataW.trod_string Tryz.underlying9 (show DataW.trod enc Tryz.prog W 0 (fun _=>true) true n2 9 [c0]=some y0 from f0)
     obtain⟨k1,e1,-,-⟩:=DataW.trod_int Tryz.underlying3 (show DataW.trod enc Tryz.prog W 0 (fun _=>true) true n2 3 [c1]=some y1 from f1)
     simp only[List.cons.injEq,and_true] at e0 e1
     subst e0 e1
     obtain⟨l0,rfl,b0,g0⟩:=Zd5 s0
     exact⟨⟨l0,k1⟩,⟨b0,by rw[g0];exact Nat.le_trans z0 (by decide)⟩,h6⟩)
  refine⟨l,ao,n,c,e4,hl.symm,hmc,hlen,fun b hb=>?_,.inr ⟨g,off,h1,h2,fun j u hj=>?_⟩⟩
  ·obtain⟨i,hi⟩:=List.mem_iff_getElem?.1 hb
   exact (hk i b hi).1
  ·have hjl:=(List.getElem?_eq_some_iff.1 hj).1
   rw[Zbs Zw3 2 Zjw] at hjl
   have hi:j/2<l.length:=by omega
   have hb:=List.getElem?_eq_getElem hi
   have hjj:j=j/2*2+j%2:=by omega
   have h9:=(hk (j/2) _ hb).2 (j%2) u (by
    rw[← Zco Zw3 2 Zjw l (j/2) (j%2) _ hb (Nat.mod_lt _ (by decide)),← hjj];exact hj)
   rwa [Nat.add_assoc,← hjj] at h9
theorem Ztw {fuel:Nat} {v:Value} {y:DataW H×List MemPlace} (h:DataW.trod enc Tryz.prog W 0 (fun _=>true) true fuel 24 [v]=some y) :
  ∃ (l:List Use) (ao:Option Addr) (n c:Nat),v = .slice ao n c∧n=l.length∧n≤c∧n≤9223372036854775807∧(∀ b∈l,True)∧Zaj Zcf W ao l:=by
 obtain⟨ao,n,c,e4,hmc,hcm,hel⟩:=Zb6 Tryz.underlying24 Zz9 (by decide) h
 have hlen:n≤9223372036854775807:=Nat.le_trans hmc (Nat.le_trans hcm (by decide))
 rcases hel with h0 | ⟨g,off,n',h1,h2,h3,h4⟩
 ·exact⟨[],ao,n,c,e4,h0,hmc,hlen,by simp,.inl rfl⟩
 ·obtain⟨l,hl,hk⟩:=Zc9 (α:=Use) n (fun i b=>(True)∧Zau W g (off+i*4) (Zcf b)) (fun i hi=>by
   obtain⟨cs,y,h5,h6,h7⟩:=h4 i hi
   obtain⟨xs,n2,hn,-,hl,hxl,hf⟩:=DataW.trod_struct Tryz.underlying39 h7
   match cs,h5 with
   | [c0,c1,c2,c3],_ =>
    match xs,hxl with
    | [y0,y1,y2,y3],_ =>
     have f0:DataW.trod enc Tryz.prog W 0 (fun _=>true) true n2 3 (([c0,c1,c2,c3]:List Value).drop 0 |>.take (Tryz.prog.cellsOf 3))=some y0:=hf 0 _ rfl
     have f1:DataW.trod enc Tryz.prog W 0 (fun _=>true) true n2 3 (([c0,c1,c2,c3]:List Value).drop 1 |>.take (Tryz.prog.cellsOf 3))=some y1:=hf 1 _ rfl
     have f2:DataW.trod enc Tryz.prog W 0 (fun _=>true) true n2 3 (([c0,c1,c2,c3]:List Value).drop 2 |>.take (Tryz.prog.cellsOf 3))=some y2:=hf 2 _ rfl
     have f3:DataW.trod enc Tryz.prog W 0 (fun _=>true) true n2 3 (([c0,c1,c2,c3]:List Value).drop 3 |>.take (Tryz.prog.cellsOf 3))=some y3:=hf 3 _ rfl
     rw[cI] at f0
     rw[cI] at f1
     rw[cI] at f2
     rw[cI] at f3
     obtain⟨k0,e0,-,-⟩:=DataW.trod_int Tryz.underlying3 (show DataW.trod enc Tryz.prog W 0 (fun _=>true) true n2 3 [c0]=some y0 from f0)
     obtain⟨k1,e1,-,-⟩:=DataW.trod_int Tryz.underlying3 (show DataW.trod enc Tryz.prog W 0 (fun _=>true) true n2 3 [c1]=some y1 from f1)
     obtain⟨k2,e2,-,-⟩:=DataW.trod_int Tryz.underlying3 (show DataW.trod enc Tryz.prog W 0 (fun _=>true) true n2 3 [c2]=some y2 from f2)
     obtain⟨k3,e3,-,-⟩:=DataW.trod_int Tryz.underlying3 (show DataW.trod enc Tryz.prog W 0 (fun _=>true) true n2 3 [c3]=some y3 from f3)
     simp only[List.cons.injEq,and_true] at e0 e1 e2 e3
     subst e0 e1 e2 e3
     exact⟨⟨k0,k1,k2,k3⟩,trivial,h6⟩)
  refine⟨l,ao,n,c,e4,hl.symm,hmc,hlen,fun b hb=>?_,.inr ⟨g,off,h1,h2,fun j u hj=>?_⟩⟩
  ·obtain⟨i,hi⟩:=List.mem_iff_getElem?.1 hb
   exact (hk i b hi).1
  ·have hjl:=(List.getElem?_eq_some_iff.1 hj).1
   rw[Zbs Zcf 4 Zbh] at hjl
   have hi:j/4<l.length:=by omega
   have hb:=List.getElem?_eq_getElem hi
   have hjj:j=j/4*4+j%4:=by omega
   have h9:=(hk (j/4) _ hb).2 (j%4) u (by
    rw[← Zco Zcf 4 Zbh l (j/4) (j%4) _ hb (Nat.mod_lt _ (by decide)),← hjj];exact hj)
   rwa [Nat.add_assoc,← hjj] at h9
theorem Ztx {fuel:Nat} {v:Value} {y:DataW H×List MemPlace} (h:DataW.trod enc Tryz.prog W 0 (fun _=>true) true fuel 23 [v]=some y) :
  ∃ (l:List Mem) (ao:Option Addr) (n c:Nat),v = .slice ao n c∧n=l.length∧n≤c∧n≤9223372036854775807∧(∀ m∈l,(∀ b∈m.b,NmL b.n)∧m.b.length≤9223372036854775807∧m.t.length≤9223372036854775807)∧Zhq W l ao:=by
 obtain⟨ao,n,c,e4,hmc,hcm,hel⟩:=Zb6 Tryz.underlying23 Z0r (by decide) h
 have hlen:n≤9223372036854775807:=Nat.le_trans hmc (Nat.le_trans hcm (by decide))
 rcases hel with h0 | ⟨g,off,n',h1,h2,h3,h4⟩
 ·exact⟨[],ao,n,c,e4,h0,hmc,hlen,by simp,.inl rfl⟩
 ·obtain⟨l,hl,hk⟩:=Zc9 (α:=Mem) n (fun i m=>((∀ b∈m.b,NmL b.n)∧m.b.length≤9223372036854775807∧m.t.length≤9223372036854775807)∧∃ cs,Zsc W m cs∧Zau W g (off+i*3) cs) (fun i hi=>by
   obtain⟨cs,y,h5,h6,h7⟩:=h4 i hi
   obtain⟨xs,n2,hn,-,hl,hxl,hf⟩:=DataW.trod_struct Tryz.underlying44 h7
   match cs,h5 with
   | [c0,c1,c2],_ =>
    match xs,hxl with
    | [y0,y1,y2],_ =>
     have f0:DataW.trod enc Tryz.prog W 0 (fun _=>true) true n2 42 (([c0,c1,c2]:List Value).drop 0 |>.take (Tryz.prog.cellsOf 42))=some y0:=hf 0 _ rfl
     have f1:DataW.trod enc Tryz.prog W 0 (fun _=>true) true n2 33 (([c0,c1,c2]:List Value).drop 1 |>.take (Tryz.prog.cellsOf 33))=some y1:=hf 1 _ rfl
     have f2:DataW.trod enc Tryz.prog W 0 (fun _=>true) true n2 3 (([c0,c1,c2]:List Value).drop 2 |>.take (Tryz.prog.cellsOf 3))=some y2:=hf 2 _ rfl
     rw[cLB] at f0
     rw[cLI] at f1
     rw[cI] at f2
     obtain⟨bl,bo,bn,bc,e0,hb1,hb2,hb3,hb4,hb5⟩:=Ztv (show DataW.trod enc Tryz.prog W 0 (fun _=>true) true n2 42 [c0]=some y0 from f0)
     obtain⟨tl,ta,tn,tc,e1,ht1,ht2,ht3,ht4⟩:=Ztt (show DataW.trod enc Tryz.prog W 0 (fun _=>true) true n2 33 [c1]=some y1 from f1)
     obtain⟨k,e2,-,-⟩:=DataW.trod_int Tryz.underlying3 (show DataW.trod enc Tryz.prog W 0 (fun _=>true) true n2 3 [c2]=some y2 from f2)
     simp only[List.cons.injEq,and_true] at e2
     subst e0 e1 e2 hb1 ht1
     refine⟨⟨bl,tl,k⟩,⟨hb4,hb3,ht3⟩,_,⟨bo,bc,ta,tc,rfl,?_,ht4⟩,h6⟩
     rcases hb5 with hb5 | ⟨g5,o5,q1,q2,q3⟩
     ·exact .inl hb5
     ·exact .inr ⟨g5,o5,q1,trivial,q2,q3⟩)
  refine⟨l,ao,n,c,e4,hl.symm,hmc,hlen,fun m hm=>?_,.inr ⟨g,off,h1,h2,fun i m hm=>(hk i m hm).2⟩⟩
  obtain⟨i,hi⟩:=List.mem_iff_getElem?.1 hm
  exact (hk i m hi).1
theorem Zwr {r:Reach} {b0:Nat} {v:Value} {d:DataW H} {p:List MemPlace} (hv:Value.okWide Tryz.prog W r b0 26 v) (h:DataW.Trod enc Tryz.prog W 0 (fun _=>true) true 26 v d p) :
  ∃ (c:Crw) (cs:List Value),v = .agg cs.toArray∧Zgs W c cs∧LenC c∧(∀ p∈c.qs,ByL p)∧(∀ m∈c.ms,∀ b∈m.b,NmL b.n):=by
 obtain⟨cs,rfl,hsz⟩:=okWide_struct Tryz.underlying26 hv
 obtain⟨fuel,hf⟩:=h
 have hcs:(Value.agg cs).cells=cs:=rfl
 rw[hcs] at hf
 obtain⟨xs,n2,hn,-,hl,hxl,hf⟩:=DataW.trod_struct Tryz.underlying26 hf
 have hl3:cs.toList.length=3:=by rw[hl];kernel_rfl
 obtain⟨l0⟩:=cs
 match l0,hl3 with
 | [c0,c1,c2],_ =>
  match xs,hxl with
  | [y0,y1,y2],_ =>
   have f0:DataW.trod enc Tryz.prog W 0 (fun _=>true) true n2 22 (([c0,c1,c2]:List Value).drop 0 |>.take (Tryz.prog.cellsOf 22))=some y0:=hf 0 _ rfl
   have f1:DataW.trod enc Tryz.prog W 0 (fun _=>true) true n2 23 (([c0,c1,c2]:List Value).drop 1 |>.take (Tryz.prog.cellsOf 23))=some y1:=hf 1 _ rfl
   have f2:DataW.trod enc Tryz.prog W 0 (fun _=>true) true n2 24 (([c0,c1,c2]:List Value).drop 2 |>.take (Tryz.prog.cellsOf 24))=some y2:=hf 2 _ rfl
   rw[cLP] at f0
   rw[cLM] at f1
   rw[cLS] at f2
   obtain⟨ql,qo,qn,qc,e0,hq1,hq2,hq3,hq4,hq5,hq6⟩:=Ztu (show DataW.trod enc Tryz.prog W 0 (fun _=>true) true n2 22 [c0]=some y0 from f0)
   obtain⟨ml,mo,mn,mc,e1,hm1,hm2,hm3,hm4,hm5⟩:=Ztx (show DataW.trod enc Tryz.prog W 0 (fun _=>true) true n2 23 [c1]=some y1 from f1)
   obtain⟨ul,uo,un,uc,e2,hu1,hu2,hu3,-,hu5⟩:=Ztw (show DataW.trod enc Tryz.prog W 0 (fun _=>true) true n2 24 [c2]=some y2 from f2)
   subst e0 e1 e2 hq1 hm1 hu1
   exact⟨⟨ql,ml,ul⟩,_,rfl,⟨qo,qc,mo,mc,uo,uc,rfl,hq4,hm5,hu5,hu2⟩,⟨hq6,fun m hm=>(hm4 m hm).2,hq3,hm3,hu3⟩,hq5,fun m hm=>(hm4 m hm).1⟩
end
theorem Zyl {c:Crw} (hf:Zzj c=true) (hL:LenC c) (hb:∀ p∈c.qs,ByL p) (hm:∀ m∈c.ms,∀ b∈m.b,NmL b.n):CrwOk c∧c.us.length≤999∧c.ms.length≤65∧c.qs.length≤129:=by
 unfold Zzj at hf
 simp only[Bool.and_eq_true,List.all_eq_true] at hf
 obtain⟨⟨h1,h2⟩,h3⟩:=hf
 unfold Zd8 at h1
 simp only[Bool.and_eq_true,Bool.or_eq_true,decide_eq_true_eq] at h1
 refine⟨⟨fun p hp=>⟨hb p hp,?_⟩,fun m hmm=>⟨hm m hmm,?_,?_⟩,by omega,by omega,by omega⟩,by omega,by omega,by omega⟩
 ·have:=Zxv (h2 p hp);omega
 ·have:=h3 m hmm
  unfold Zts at this
  simp only[Bool.and_eq_true,decide_eq_true_eq] at this
  omega
 ·have:=h3 m hmm
  unfold Zts at this
  simp only[Bool.and_eq_true,decide_eq_true_eq] at this
  omega
end
section
open Go.RowKit Go.Sort Go.Maps
def Zpf (c:Crw) (u m:Int):Tbl:=Zaq c (Zbe c (Zas c) u.toNat m.toNat)
def okH (c:Crw) (u m:Int):Bool:=Zdy c u m&&Zbv (Zpf c u m)
def alH (c:Crw) (u m:Int):List Int:=(Zav c c.us.length 0 (Zbe c (Zas c) u.toNat m.toNat) []).map Int.ofNat
def isH (c:Crw) (u m:Int):Bool:=Zdy c u m&&!Zbv (Zpf c u m)
def blH (c:Crw) (u m:Int):List Int:=match Zbg (Zpf c u m) (Zpf c u m).U 0 Zfv with
 | .ok _=>[]
 | .error r=>(r.map Int.ofNat).mergeSort leI
theorem Zty {c:Crw} (hn:c.us.length≤1000) {u m:Int} (h:okH c u m=true):(alH c u m).length=c.us.length∧Zip c (alH c u m)=true∧(alH c u m)[u.toNat]?=some m:=by
 unfold okH at h
 rw[Bool.and_eq_true] at h
 obtain⟨hf,hfe⟩:=h
 obtain⟨hv,h1,h2,h3,h4⟩:=Zfm hf
 obtain⟨g1,g2,g3⟩:=Zv5 hv hn h2 h4 hfe
 refine⟨by unfold alH;rw[List.length_map,g1],g2,?_⟩
 unfold alH
 rw[List.getElem?_map]
 rw[List.getD_eq_getElem?_getD] at g3
 rw[List.getElem?_eq_getElem (by rw[g1];exact h2)] at g3 ⊢
 rw[Option.getD_some] at g3
 rw[g3]
 show some ((m.toNat:Nat):Int)=some m
 rw[Int.toNat_of_nonneg h3]
theorem Zym {c:Crw} (hn:c.us.length≤1000) {u m:Int} (h:isH c u m=true):Zbl c u m (blH c u m)=true:=by
 unfold isH at h
 rw[Bool.and_eq_true] at h
 obtain⟨hf,hfe⟩:=h
 have hmo:=Zjl (C:=Zpf c u m) (Zpf c u m).U 0 Zfv (by omega) (Zm7 _)
 unfold blH
 unfold Zbv at hfe
 cases hm:Zbg (Zpf c u m) (Zpf c u m).U 0 Zfv with
 | ok s=>rw[hm] at hfe;cases hfe
 | error r =>
  rw[hm] at hmo
  obtain⟨v,hv,hvr,hs⟩:=hmo
  exact Zmo hn hf hs (fun e=>by rw[e] at hvr;cases hvr)
theorem Ztz {c:Crw} (hn:c.us.length≤1000) {u m:Int} {set:List Int} (h:Zbl c u m set=true):okH c u m=false:=by
 unfold okH Zpf
 rw[Zqd hn h,Bool.and_false]
theorem Zyn (c:Crw) {u m:Int} (h:Zdy c u m=true):isH c u m=!okH c u m:=by
 unfold isH okH
 rw[h,Bool.true_and,Bool.true_and]
theorem Zws (c:Crw) {u m:Int} (h:Zdy c u m=false):okH c u m=false∧isH c u m=false∧∀ set,Zbl c u m set=false:=by
 unfold okH isH Zbl
 rw[h]
 exact⟨rfl,rfl,fun set=>rfl⟩
theorem Zt0 {c:Crw} {u m:Int} (hv:Zal c=true) (h1:0≤u) (h2:u.toNat<c.us.length) (h3:0≤m) (h4:m.toNat<c.ms.length):Zdy c u m=true:=by
 unfold Zdy
 rw[hv,Zd7.2 ⟨h1,h2⟩,Zd7.2 ⟨h3,h4⟩];rfl
theorem Zwt {c:Crw} {u m:Int} (hv:Zal c=false):Zdy c u m=false:=by
 unfold Zdy
 rw[hv];rfl
theorem Zt1 {c:Crw} (hn:c.us.length≤1000) {u:Int} (hv:Zal c=true) (h1:0≤u) (h2:u.toNat<c.us.length) {m:Nat}:m∈Zfj c u↔okH c u (m:Int)=true:=by
 have hok:=Zao hv hn
 unfold Zfj okH
 rw[hv,Zd7.2 ⟨h1,h2⟩,Bool.true_and,if_pos rfl,Zv4,Bool.and_eq_true]
 constructor
 ·rintro⟨g1,g2⟩
  exact⟨Zt0 hv h1 h2 (by omega) g1,by rw[Zo7 hok h2 g1] at g2;exact g2⟩
 ·rintro⟨g1,g2⟩
  obtain⟨-,-,-,-,g3⟩:=Zfm g1
  have g3:m<c.ms.length:=g3
  exact⟨g3,by rw[Zo7 hok h2 g3];exact g2⟩
theorem Zn1 {c:Crw} (hn:c.us.length≤1000) {u m:Int} (h:Zdy c u m=true):((Zfj c u).map Int.ofNat).any (fun x=>x==m)=okH c u m:=by
 obtain⟨hv,h1,h2,h3,h4⟩:=Zfm h
 rw[Bool.eq_iff_iff,List.any_eq_true]
 constructor
 ·rintro⟨x,hx,hxm⟩
  obtain⟨k,hk,rfl⟩:=List.mem_map.1 hx
  have hxm:((k:Nat):Int)=m:=by simpa using hxm
  rw[← hxm]
  exact (Zt1 hn hv h1 h2).1 hk
 ·intro ho
  refine⟨((m.toNat:Nat):Int),List.mem_map.2 ⟨m.toNat,(Zt1 hn hv h1 h2).2 (by rw[Int.toNat_of_nonneg h3];exact ho),rfl⟩,?_⟩
  rw[Int.toNat_of_nonneg h3];simp
theorem Zwu (w:World) (c:Crw) (cs:List Value) (B:Nat) (u m:Int) (ha:ArgC w c cs B) :
  Calls Tryz.prog 49 #[.agg cs.toArray,.int .i64 u,.int .i64 m] w fun e w'=>Below w.heap.size w w' ∧
   if okH c u m=true then ∃ o cap,e = .returned (.tuple #[.slice o c.us.length cap,.bool true])∧Zaj Zbd w' o (alH c u m) else e = .returned (.tuple #[.slice none 0 0,.bool false]):=by
 refine (Zyb w c cs B u m ha).mono ?_
 intro e w' h
 unfold Zzd at h
 obtain⟨hb,hr⟩:=h
 refine⟨hb,?_⟩
 have hnu:=ha.nu
 by_cases ho:okH c u m=true
 ·rw[if_pos ho]
  have hl:=(Zty (by omega) ho).1
  have ho':(Zdy c u m&&Zbv (Zaq c (Zbe c (Zas c) u.toNat m.toNat)))=true:=ho
  rw[if_pos ho'] at hr
  obtain⟨o,cap,rfl,h2⟩:=hr
  unfold alH at hl
  rw[List.length_map] at hl
  exact⟨o,cap,by rw[hl],Zdb h2 rfl⟩
 ·rw[if_neg ho]
  have ho':¬ (Zdy c u m&&Zbv (Zaq c (Zbe c (Zas c) u.toNat m.toNat)))=true:=ho
  rwa [if_neg ho'] at hr
theorem Zwv (w:World) (c:Crw) (cs:List Value) (B:Nat) (u m:Int) (ha:ArgC w c cs B) :
  Calls Tryz.prog 50 #[.agg cs.toArray,.int .i64 u,.int .i64 m] w fun e w'=>Below w.heap.size w w' ∧
   if isH c u m=true then ∃ o cap,e = .returned (.tuple #[.slice o (blH c u m).length cap,.bool true])∧Zaj Zbd w' o (blH c u m) else e = .returned (.tuple #[.slice none 0 0,.bool false]):=by
 refine (Zyc w c cs B u m ha).mono ?_
 intro e w' h
 unfold Zw7 at h
 obtain⟨hb,hr⟩:=h
 refine⟨hb,?_⟩
 unfold isH blH
 have hU:(Zpf c u m).U=c.us.length:=rfl
 have hfe:Zbv (Zpf c u m)=match Zbg (Zpf c u m) c.us.length 0 Zfv with | .ok _=>true | .error _=>false:=rfl
 rw[hfe,hU]
 have hX:Zaq c (Zbe c (Zas c) u.toNat m.toNat)=Zpf c u m:=rfl
 rw[hX] at hr
 by_cases hf:Zdy c u m=true
 ·rw[if_pos hf] at hr
  rw[hf,Bool.true_and]
  cases hm:Zbg (Zpf c u m) c.us.length 0 Zfv with
  | ok s=>rw[hm] at hr;exact hr
  | error r =>
   rw[hm] at hr
   obtain⟨g,off,cap,rfl,h2⟩:=hr
   have hl:((r.map Int.ofNat).mergeSort leI).length=r.length:=by rw[List.length_mergeSort,List.length_map]
   refine⟨some ⟨g,off,none⟩,cap,?_,h2.flatR Za5 hl.symm⟩
   show _=Ending.returned (.tuple #[.slice (some ⟨g,off,none⟩) ((r.map Int.ofNat).mergeSort leI).length cap,.bool true])
   rw[hl]
 ·rw[if_neg hf] at hr
  rw[Bool.not_eq_true] at hf
  rw[hf]
  exact hr
theorem Zt2 (w:World) (c:Crw) (cs:List Value) (B:Nat) (u:Int) (ha:ArgC w c cs B) :
  Calls Tryz.prog 47 #[.agg cs.toArray,.int .i64 u] w fun e w'=>Below w.heap.size w w'∧∃ o cap,e = .returned (.slice o (Zfj c u).length cap)∧Zaj Zbd w' o ((Zfj c u).map Int.ofNat):=by
 refine (Zvw w c cs B u ha).mono ?_
 intro e w' h
 unfold Zgu at h
 obtain⟨⟨o,cap,h1,h2⟩,hb⟩:=h
 exact⟨hb,o,cap,h1,Zdb h2 rfl⟩
end
section
open Go.RowKit Go.Sort Go.Maps
theorem Zt3 (w:World) (c:Crw) (cs:List Value) (B:Nat) (u m:Int) (set:List Int) (so:Option Addr) (sc:Nat) (hcw:Zgs w c cs) (hG:Tab w B) (hL:LenC c) (hby:∀ p∈c.qs,ByL p) (hnm:∀ m∈c.ms,∀ b∈m.b,NmL b.n) (hset:Zaj Zbd w so set) (hsl:set.length≤9223372036854775807) :
  Calls Tryz.prog 15 #[.agg cs.toArray,.int .i64 u,.int .i64 m,.slice so set.length sc] w fun e w'=>e = .returned (.bool true)∧Below w.heap.size w w':=by
 have HSW:=ħ (fun W (hW:Below w.heap.size w W)=>hset.below hW)
 have HVC:=ħ (fun W (hc:Zgs W c cs) (hT:Tab W B) (hok:CrwOk c)=>Zi6 W c cs hc B hT hok)
 have HTB:=ħ (fun W (hW:Below w.heap.size w W)=>Zbk.step (w:=w) hG hW)
 have HCW:=ħ (fun W (hW:Below w.heap.size w W)=>hcw.below hW)
 have HFK:=ħ (fun hf=>Zyl (c:=c) hf hL hby hnm)
 have HFW:=ħ (fun W (hW:Below w.heap.size w W)=>Zwq W c cs (hcw.below hW) hL)
 have hun:=hL.nu
 have hmn:=hL.nm
 have hqn:=hL.nq
 obtain⟨qo,qc,mo,mc,uo,uc,rfl,-⟩:=hcw
 clear hL hby hnm hG hset
 generalize hqe:c.qs.length=qn at *
 generalize hme:c.ms.length=mn at *
 generalize hue:c.us.length=un at *
 have HUE:=ħ hue
 have HME:=ħ hme
 have HQE:=ħ hqe
 clear hue hme hqe
 have X1:Hid (Zaf (w.alloc (.cells #[.slice qo qn qc,.slice mo mn mc,.slice uo un uc] 26)) w.heap.size 26 [.slice qo qn qc,.slice mo mn mc,.slice uo un uc]):=ħ (heap_alloc_new w _)
 have B1:=ħ ((Below.refl w.heap.size w).alloc (Nat.le_refl _) (.cells #[.slice qo qn qc,.slice mo mn mc,.slice uo un uc] 26))
 go_enter Tryz.func15,Tryz.ntmps15
 go_upto_region 1 with (fail)
 generalize w.alloc (.cells #[.slice qo qn qc,.slice mo mn mc,.slice uo un uc] 26)=w1 at *
 go_wp2_with fail
 refine (Ztr w1 B (HTB.o w1 B1.o)).mono ?_
 rintro e w2 ⟨rfl,b2⟩
 have X2:=ħ (X1.o.step b2)
 have B2:=ħ (B1.o.trans (b2.mono B1.o.size))
 clear b2 X1 B1
 go_upto_region 2 with (fail)
 go_wp2_with (refine wpList_load_row rfl 26 (.tmp 4) rfl (w.heap.size) ?x1 26 #[.slice qo qn qc,.slice mo mn mc,.slice uo un uc] (0,0) _ X2.o Tryz.underlying26 rfl (Za7 _ _ _) ?_;(case x1=>rfl))
 refine (HFW.o w2 B2.o).mono ?_
 rintro e w3 ⟨rfl,b3⟩
 have X3:=ħ (X2.o.step b3)
 have B3:=ħ (B2.o.trans (b3.mono B2.o.size))
 clear b3 X2 B2 HFW
 obtain⟨V,hV⟩:∃ V,Zzj c=V:=⟨_,rfl⟩
 rw[hV]
 have HV:=ħ hV
 clear hV
 cases V with
 | false =>
  go_wp2_with fail
  go_ret
  exact⟨rfl,B3.o⟩
 | true =>
  obtain⟨hok,h999,h65,h129⟩:=HFK.o HV.o
  have HOK:=ħ hok
  clear hok
  have HAG:=ħ (fun W (hW:Below w.heap.size w W)=>(⟨HCW.o W hW,HTB.o W hW,HOK.o,by rw[HUE.o];exact h999⟩:ArgC W c [.slice qo qn qc,.slice mo mn mc,.slice uo un uc] B))
  clear HFK HTB HCW HOK
  have HVC:=ħ (fun W (hW:Below w.heap.size w W)=>HVC.o W (HAG.o W hW).crw (HAG.o W hW).tab (HAG.o W hW).ok)
  have c1:=X3.o.cell 1 _ rfl
  have c2:=X3.o.cell 2 _ rfl
  by_cases h1:(20:Int)<set.length
  ·go_wp2_with fail
   go_ret
   exact⟨rfl,B3.o⟩
  by_cases h2:u<0
  ·go_wp2_with fail
   go_ret
   exact⟨rfl,B3.o⟩
  by_cases h3:u≥(un:Int)
  ·go_wp2_with fail
   go_ret
   exact⟨rfl,B3.o⟩
  by_cases h4:m<0
  ·go_wp2_with fail
   go_ret
   exact⟨rfl,B3.o⟩
  by_cases h5:m≥(mn:Int)
  ·go_wp2_with fail
   go_ret
   exact⟨rfl,B3.o⟩
  have HIX:Hid (Zal c=true→Zdy c u m=true):=ħ (fun hv=>Zt0 hv (by omega) (by rw[HUE.o];omega) (by omega) (by rw[HME.o];omega))
  have HWI:=ħ (fun W (hW:Below w.heap.size w W)=>Zwu W c _ B u m (HAG.o W hW))
  have HBI:=ħ (fun W (hW:Below w.heap.size w W)=>Zwv W c _ B u m (HAG.o W hW))
  have HBS:=ħ (fun W (hW:Below w.heap.size w W) l lo lc (h:Zaj Zbd W lo l) (hl:l.length≤1000000)=>Zjc W c _ B u m l lo lc (HAG.o W hW) h hl)
  have HPO:=ħ (fun W (hW:Below w.heap.size w W)=>Zt2 W c _ B u (HAG.o W hW))
  have HFI:=ħ (fun W (hW:Below w.heap.size w W) l lo lc (h:Zaj Zbd W lo l)=>Zv2 W c _ B l lo lc (HAG.o W hW) h)
  rw[HUE.o] at HWI
  have HO1:Hid (okH c u m=true→(alH c u m).length=un∧Zip c (alH c u m)=true∧(alH c u m)[u.toNat]?=some m):=ħ (fun h=>by
   have:=Zty (c:=c) (by rw[HUE.o];omega) h
   rwa [HUE.o] at this)
  have HO2:Hid (isH c u m=true→Zbl c u m (blH c u m)=true∧(blH c u m).length≤1000000):=ħ (fun h=>by
   have hb:=Zym (c:=c) (by rw[HUE.o];omega) h
   refine⟨hb,?_⟩
   obtain⟨x,hs⟩:=Zgl (by rw[HUE.o];omega) hb
   have:=Zc0 _ (List.range c.us.length) hs.nodup (fun v hv=>List.mem_range.2 (hs.win v hv).1)
   rw[List.length_map,List.length_range,HUE.o] at this
   omega)
  have HO3:Hid (∀ l,Zbl c u m l=true→okH c u m=false):=ħ (fun l h=>Ztz (by rw[HUE.o];omega) h)
  have HO4:Hid (Zal c=true→isH c u m=!okH c u m∧((Zfj c u).map Int.ofNat).any (fun x=>x==m)=okH c u m):=ħ (fun hv=>⟨Zyn c (HIX.o hv),Zn1 (by rw[HUE.o];omega) (HIX.o hv)⟩)
  have HO5:Hid (Zal c=false→okH c u m=false∧isH c u m=false∧∀ l,Zbl c u m l=false):=ħ (fun hv=>Zws c (Zwt hv))
  have HO6:Hid ((Zfj c u).length=((Zfj c u).map Int.ofNat).length∧((Zfj c u).map Int.ofNat).length≤65):=ħ ⟨by rw[List.length_map],by
   rw[List.length_map]
   unfold Zfj
   split
   ·exact Nat.le_trans (Zbn _ _) (by rw[HME.o];exact h65)
   ·exact Nat.zero_le _⟩
  obtain⟨vv,hvv⟩:∃ x,Zal c=x:=⟨_,rfl⟩
  obtain⟨okb,hokb⟩:∃ x,okH c u m=x:=⟨_,rfl⟩
  obtain⟨isb,hisb⟩:∃ x,isH c u m=x:=⟨_,rfl⟩
  obtain⟨al,hal⟩:∃ x,alH c u m=x:=⟨_,rfl⟩
  obtain⟨bl,hbl⟩:∃ x,blH c u m=x:=⟨_,rfl⟩
  obtain⟨anb,hanb⟩:∃ x,Zbl c u m set=x:=⟨_,rfl⟩
  obtain⟨pl,hpl⟩:∃ x,(Zfj c u).map Int.ofNat=x:=⟨_,rfl⟩
  rw[hpl] at HPO HO4 HO6
  have HO3':=HO3.o set
  rw[hokb,hal] at HWI HO1
  rw[hisb,hbl] at HBI HO2
  rw[hvv] at HVC HO4 HO5
  rw[hokb] at HO3 HO4 HO5 HO3'
  rw[hisb] at HO4 HO5
  rw[hanb] at HO3'
  have HAN:=ħ hanb
  have HO3':=ħ HO3'
  rw[HO6.o.1] at HPO
  have hpl65:=HO6.o.2
  clear hvv hokb hisb hal hbl hanb hpl HIX HO6
  go_upto_region 4 with (fail)
  go_wp2_with (refine wpList_load_row rfl 26 (.tmp 4) rfl (w.heap.size) ?x1 26 #[.slice qo qn qc,.slice mo mn mc,.slice uo un uc] (0,0) _ X3.o Tryz.underlying26 rfl (Za7 _ _ _) ?_;(case x1=>rfl))
  refine (HWI.o w3 B3.o).mono ?_
  rintro e w4 ⟨b4,hr4⟩
  have X4:=ħ (X3.o.step b4)
  have B4:=ħ (B3.o.trans (b4.mono B3.o.size))
  clear b4 X3 B3 HWI c1 c2
  cases vv with
  | false =>
   obtain⟨q1,q2,q3⟩:=HO5.o rfl
   subst q1
   subst q2
   have q3:anb=false:=by rw[← HAN.o];exact q3 set
   subst q3
   rw[if_neg (by decide)] at hr4
   subst hr4
   go_upto_region 5 with (fail)
   go_wp2_with (refine wpList_load_row rfl 26 (.tmp 4) rfl (w.heap.size) ?x1 26 #[.slice qo qn qc,.slice mo mn mc,.slice uo un uc] (0,0) _ X4.o Tryz.underlying26 rfl (Za7 _ _ _) ?_;(case x1=>rfl))
   refine (HBI.o w4 B4.o).mono ?_
   rintro e w5 ⟨b5,hr5⟩
   have X5:=ħ (X4.o.step b5)
   have B5:=ħ (B4.o.trans (b5.mono B4.o.size))
   clear b5 X4 B4 HBI
   rw[if_neg (by decide)] at hr5
   subst hr5
   go_upto_region 6 with (fail)
   go_wp2_with (refine wpList_load_row rfl 26 (.tmp 4) rfl (w.heap.size) ?x1 26 #[.slice qo qn qc,.slice mo mn mc,.slice uo un uc] (0,0) _ X5.o Tryz.underlying26 rfl (Za7 _ _ _) ?_;(case x1=>rfl))
   refine (HBS.o w5 B5.o set so sc (HSW.o w5 B5.o) (by omega)).mono ?_
   rintro e w6 ⟨rfl,b6⟩
   have X6:=ħ (X5.o.step b6)
   have B6:=ħ (B5.o.trans (b6.mono B5.o.size))
   clear b6 X5 B5
   rw[HAN.o]
   go_upto_region 7 with (fail)
   go_wp2_with (refine wpList_load_row rfl 26 (.tmp 4) rfl (w.heap.size) ?x1 26 #[.slice qo qn qc,.slice mo mn mc,.slice uo un uc] (0,0) _ X6.o Tryz.underlying26 rfl (Za7 _ _ _) ?_;(case x1=>rfl))
   refine (HVC.o w6 B6.o).mono ?_
   rintro e w7 ⟨rfl,b7⟩
   have B7:=ħ (B6.o.trans (b7.mono B6.o.size))
   go_wp2_with fail
   go_ret
   exact⟨rfl,B7.o⟩
  | true =>
   obtain⟨q1,q2⟩:=HO4.o rfl
   subst q1
   have HPL:=ħ q2
   clear q2 HO4 HO5
   cases okb with
   | true =>
    obtain⟨hl1,hl2,hl3⟩:=HO1.o rfl
    have HL3:=ħ hl3
    have HL2:=ħ hl2
    rw[if_pos rfl] at hr4
    obtain⟨ao,ac,rfl,hfa⟩:=hr4
    have HA:=ħ (fun W (hW:Below w4.heap.size w4 W)=>hfa.below hW)
    clear hfa hl3 hl2 HO1
    have q3:anb=false:=by
     cases anb with
     | false=>rfl
     | true=>have:=HO3'.o rfl;cases this
    subst q3
    clear HO3'
    go_upto_region 5 with (fail)
    go_wp2_with (refine wpList_load_row rfl 26 (.tmp 4) rfl (w.heap.size) ?x1 26 #[.slice qo qn qc,.slice mo mn mc,.slice uo un uc] (0,0) _ X4.o Tryz.underlying26 rfl (Za7 _ _ _) ?_;(case x1=>rfl))
    refine (HBI.o w4 B4.o).mono ?_
    rintro e w5 ⟨b5,hr5⟩
    have X5:=ħ (X4.o.step b5)
    have B5:=ħ (B4.o.trans (b5.mono B4.o.size))
    have L5:=ħ b5
    clear b5 X4 HBI
    rw[if_neg (by decide)] at hr5
    subst hr5
    go_upto_region 6 with (fail)
    go_wp2_with (refine wpList_load_row rfl 26 (.tmp 4) rfl (w.heap.size) ?x1 26 #[.slice qo qn qc,.slice mo mn mc,.slice uo un uc] (0,0) _ X5.o Tryz.underlying26 rfl (Za7 _ _ _) ?_;(case x1=>rfl))
    refine (HBS.o w5 B5.o set so sc (HSW.o w5 B5.o) (by omega)).mono ?_
    rintro e w6 ⟨rfl,b6⟩
    have X6:=ħ (X5.o.step b6)
    have B6:=ħ (B5.o.trans (b6.mono B5.o.size))
    have L6:=ħ (L5.o.trans (b6.mono L5.o.size))
    have M6:=ħ b6
    clear b6 X5 L5
    rw[HAN.o]
    go_upto_region 7 with (fail)
    go_wp2_with (refine wpList_load_row rfl 26 (.tmp 4) rfl (w.heap.size) ?x1 26 #[.slice qo qn qc,.slice mo mn mc,.slice uo un uc] (0,0) _ X6.o Tryz.underlying26 rfl (Za7 _ _ _) ?_;(case x1=>rfl))
    refine (HVC.o w6 B6.o).mono ?_
    rintro e w7 ⟨rfl,b7⟩
    have X7:=ħ (X6.o.step b7)
    have B7:=ħ (B6.o.trans (b7.mono B6.o.size))
    have L7:=ħ (L6.o.trans (b7.mono L6.o.size))
    have M7:=ħ (M6.o.trans (b7.mono M6.o.size))
    clear b7 X6 B6 L6 M6
    go_upto_region 9 with (fail)
    go_wp2_with (refine wpList_load_row rfl 26 (.tmp 4) rfl (w.heap.size) ?x1 26 #[.slice qo qn qc,.slice mo mn mc,.slice uo un uc] (0,0) _ X7.o Tryz.underlying26 rfl (Za7 _ _ _) ?_;(case x1=>rfl))
    refine (HPO.o w7 B7.o).mono ?_
    rintro e w8 ⟨b8,po,pc,rfl,hfp⟩
    have HP:=ħ (fun W (hW:Below w8.heap.size w8 W)=>hfp.below hW)
    have X8:=ħ (X7.o.step b8)
    have B8:=ħ (B7.o.trans (b8.mono B7.o.size))
    have L8:=ħ (L7.o.trans (b8.mono L7.o.size))
    have M8:=ħ (M7.o.trans (b8.mono M7.o.size))
    clear b8 X7 B7 L7 M7 hfp
    have HGP:=ħ (fun k (hk:k<pl.length)=>(⟨_,List.getElem?_eq_getElem hk⟩:∃ x,pl[k]?=some x))
    have HPN:Hid (∀ (k:Nat) (x:Int),pl[k]?=some x→(pl.take (k+1)).any (fun x=>x==m)=((pl.take k).any (fun x=>x==m)||(x==m))):=ħ (fun k x hx=>by
     rw[List.take_add_one,hx,List.any_append];simp)
    have HPE:Hid ((pl.take pl.length).any (fun x=>x==m)=true):=ħ (by rw[List.take_length];exact HPL.o)
    obtain⟨pn,hpn⟩:∃ n,pl.length=n:=⟨_,rfl⟩
    rw[hpn] at HGP HPE hpl65 ⊢
    clear hpn HPL
    go_upto_region 11 with (fail)
    go_wp2_with fail
    go_loopw [16,17] (fun fv iv wr=>∃ (k:Nat),iv = .int .i64 k∧k≤pn∧fv = .bool ((pl.take k).any (fun x=>x==m))∧Hid (wr=w8)) (fun _ i _=>(pn-intOf i).toNat)
    case atStart=>exact⟨0,rfl,by omega,rfl,ħ rfl⟩
    case round =>
     obtain⟨k,rfl,hi,rfl,HWR⟩:=hrel
     have hwr:wr=w8:=HWR.o
     subst hwr
     clear HWR
     have e2:IntKind.i64.wrap ((k:Int)+1)=((k+1:Nat):Int):=IntWalk.i64_in _ (by omega)
     by_cases hin:k<pn
     ·have ii:(k:Int)<pn:=by omega
      obtain⟨x,hx⟩:=HGP.o k hin
      have HN:=ħ (HPN.o k x hx)
      obtain⟨g,off,hpo,hg,a0⟩:=(HP.o wr (Below.refl _ _)).int k x hx
      have HPO2:=ħ hpo
      subst hpo
      clear hx hg
      obtain⟨fb,hfb⟩:∃ b,(pl.take k).any (fun x=>x==m)=b:=⟨_,rfl⟩
      rw[hfb] at HN ⊢
      clear hfb
      cases fb with
      | true =>
       go_wp2_with fail
       go_roundw
       case rel=>exact⟨k+1,by go_num,by omega,by rw[HN.o];rfl,ħ trivial⟩
       case measure=>simp only[intOf];omega
      | false =>
       obtain⟨xb,hxb⟩:∃ b,(x==m)=b:=⟨_,rfl⟩
       rw[hxb] at HN
       cases xb with
       | true =>
        go_wp2_with fail
        go_roundw
        case rel=>exact⟨k+1,by go_num,by omega,by rw[HN.o];rfl,ħ trivial⟩
        case measure=>simp only[intOf];omega
       | false =>
        go_wp2_with fail
        go_roundw
        case rel=>exact⟨k+1,by go_num,by omega,by rw[HN.o];rfl,ħ trivial⟩
        case measure=>simp only[intOf];omega
     ·have ii:¬ (k:Int)<pn:=by omega
      obtain rfl:k=pn:=by omega
      rw[HPE.o]
      have c2:=X8.o.cell 2 _ rfl
      have hb0:(((un:Nat):Int) != ((un:Nat):Int))=false:=by simp
      have hmm:(m==m)=true:=by simp
      go_upto_region 19 with (fail)
      go_wp2_with (refine wpList_load_row rfl 26 (.tmp 4) rfl (w.heap.size) ?x1 26 #[.slice qo qn qc,.slice mo mn mc,.slice uo un uc] (0,0) _ X8.o Tryz.underlying26 rfl (Za7 _ _ _) ?_;(case x1=>rfl))
      have HF:=HFI.o wr B8.o al ao ac (HA.o wr L8.o)
      rw[hl1] at HF
      refine HF.mono ?_
      rintro e w9 ⟨rfl,b9⟩
      rw[HL2.o]
      have X9:=ħ (X8.o.step b9)
      have B9:=ħ (B8.o.trans (b9.mono B8.o.size))
      have c9:=X9.o.cell 2 _ rfl
      obtain⟨g2,o2,hao2,hg2,a2⟩:=(HA.o w9 (L8.o.trans (b9.mono L8.o.size))).int u.toNat m HL3.o
      clear b9 X8 B8 L8 M8 c2 hg2 hl1
      subst hao2
      have u0:¬ u<0:=by omega
      have un0:u<(un:Int):=by omega
      have un1:0≤u:=by omega
      go_wp2_with fail
      go_ret
      exact⟨rfl,B9.o⟩
   | false =>
    rw[if_neg (by decide)] at hr4
    subst hr4
    go_upto_region 5 with (fail)
    go_wp2_with (refine wpList_load_row rfl 26 (.tmp 4) rfl (w.heap.size) ?x1 26 #[.slice qo qn qc,.slice mo mn mc,.slice uo un uc] (0,0) _ X4.o Tryz.underlying26 rfl (Za7 _ _ _) ?_;(case x1=>rfl))
    refine (HBI.o w4 B4.o).mono ?_
    rintro e w5 ⟨b5,hr5⟩
    have X5:=ħ (X4.o.step b5)
    have B5:=ħ (B4.o.trans (b5.mono B4.o.size))
    have L5:=ħ b5
    clear b5 X4 HBI
    obtain⟨hb1,hb2⟩:=HO2.o rfl
    have HBB:=ħ hb1
    rw[if_pos (by decide)] at hr5
    obtain⟨bo,bc,rfl,hfb⟩:=hr5
    have HB:=ħ (fun W (hW:Below w5.heap.size w5 W)=>hfb.below hW)
    clear hfb hb1 HO2
    go_upto_region 6 with (fail)
    go_wp2_with (refine wpList_load_row rfl 26 (.tmp 4) rfl (w.heap.size) ?x1 26 #[.slice qo qn qc,.slice mo mn mc,.slice uo un uc] (0,0) _ X5.o Tryz.underlying26 rfl (Za7 _ _ _) ?_;(case x1=>rfl))
    refine (HBS.o w5 B5.o set so sc (HSW.o w5 B5.o) (by omega)).mono ?_
    rintro e w6 ⟨rfl,b6⟩
    have X6:=ħ (X5.o.step b6)
    have B6:=ħ (B5.o.trans (b6.mono B5.o.size))
    have L6:=ħ (L5.o.trans (b6.mono L5.o.size))
    have M6:=ħ b6
    clear b6 X5 L5
    rw[HAN.o]
    go_upto_region 7 with (fail)
    go_wp2_with (refine wpList_load_row rfl 26 (.tmp 4) rfl (w.heap.size) ?x1 26 #[.slice qo qn qc,.slice mo mn mc,.slice uo un uc] (0,0) _ X6.o Tryz.underlying26 rfl (Za7 _ _ _) ?_;(case x1=>rfl))
    refine (HVC.o w6 B6.o).mono ?_
    rintro e w7 ⟨rfl,b7⟩
    have X7:=ħ (X6.o.step b7)
    have B7:=ħ (B6.o.trans (b7.mono B6.o.size))
    have L7:=ħ (L6.o.trans (b7.mono L6.o.size))
    have M7:=ħ (M6.o.trans (b7.mono M6.o.size))
    clear b7 X6 B6 L6 M6
    go_upto_region 9 with (fail)
    go_wp2_with (refine wpList_load_row rfl 26 (.tmp 4) rfl (w.heap.size) ?x1 26 #[.slice qo qn qc,.slice mo mn mc,.slice uo un uc] (0,0) _ X7.o Tryz.underlying26 rfl (Za7 _ _ _) ?_;(case x1=>rfl))
    refine (HPO.o w7 B7.o).mono ?_
    rintro e w8 ⟨b8,po,pc,rfl,hfp⟩
    have HP:=ħ (fun W (hW:Below w8.heap.size w8 W)=>hfp.below hW)
    have X8:=ħ (X7.o.step b8)
    have B8:=ħ (B7.o.trans (b8.mono B7.o.size))
    have L8:=ħ (L7.o.trans (b8.mono L7.o.size))
    have M8:=ħ (M7.o.trans (b8.mono M7.o.size))
    clear b8 X7 B7 L7 M7 hfp
    have HGP:=ħ (fun k (hk:k<pl.length)=>(⟨_,List.getElem?_eq_getElem hk⟩:∃ x,pl[k]?=some x))
    have HPN:Hid (∀ (k:Nat) (x:Int),pl[k]?=some x→(pl.take (k+1)).any (fun x=>x==m)=((pl.take k).any (fun x=>x==m)||(x==m))):=ħ (fun k x hx=>by
     rw[List.take_add_one,hx,List.any_append];simp)
    have HPE:Hid ((pl.take pl.length).any (fun x=>x==m)=false):=ħ (by rw[List.take_length];exact HPL.o)
    obtain⟨pn,hpn⟩:∃ n,pl.length=n:=⟨_,rfl⟩
    rw[hpn] at HGP HPE hpl65 ⊢
    clear hpn HPL
    go_upto_region 11 with (fail)
    go_wp2_with fail
    go_loopw [16,17] (fun fv iv wr=>∃ (k:Nat),iv = .int .i64 k∧k≤pn∧fv = .bool ((pl.take k).any (fun x=>x==m))∧Hid (wr=w8)) (fun _ i _=>(pn-intOf i).toNat)
    case atStart=>exact⟨0,rfl,by omega,rfl,ħ rfl⟩
    case round =>
     obtain⟨k,rfl,hi,rfl,HWR⟩:=hrel
     have hwr:wr=w8:=HWR.o
     subst hwr
     clear HWR
     have e2:IntKind.i64.wrap ((k:Int)+1)=((k+1:Nat):Int):=IntWalk.i64_in _ (by omega)
     by_cases hin:k<pn
     ·have ii:(k:Int)<pn:=by omega
      obtain⟨x,hx⟩:=HGP.o k hin
      have HN:=ħ (HPN.o k x hx)
      obtain⟨g,off,hpo,hg,a0⟩:=(HP.o wr (Below.refl _ _)).int k x hx
      have HPO2:=ħ hpo
      subst hpo
      clear hx hg
      obtain⟨fb,hfb⟩:∃ b,(pl.take k).any (fun x=>x==m)=b:=⟨_,rfl⟩
      rw[hfb] at HN ⊢
      clear hfb
      cases fb with
      | true =>
       go_wp2_with fail
       go_roundw
       case rel=>exact⟨k+1,by go_num,by omega,by rw[HN.o];rfl,ħ trivial⟩
       case measure=>simp only[intOf];omega
      | false =>
       obtain⟨xb,hxb⟩:∃ b,(x==m)=b:=⟨_,rfl⟩
       rw[hxb] at HN
       cases xb with
       | true =>
        go_wp2_with fail
        go_roundw
        case rel=>exact⟨k+1,by go_num,by omega,by rw[HN.o];rfl,ħ trivial⟩
        case measure=>simp only[intOf];omega
       | false =>
        go_wp2_with fail
        go_roundw
        case rel=>exact⟨k+1,by go_num,by omega,by rw[HN.o];rfl,ħ trivial⟩
        case measure=>simp only[intOf];omega
     ·have ii:¬ (k:Int)<pn:=by omega
      obtain rfl:k=pn:=by omega
      rw[HPE.o]
      cases anb with
      | true =>
       go_upto_region 15 with (fail)
       go_wp2_with (refine Zbc (by rfl) 26 (.tmp 4) rfl (w.heap.size) ?x1 26 #[.slice qo qn qc,.slice mo mn mc,.slice uo un uc] (0,0) _ X8.o Tryz.underlying26 rfl (Za7 _ _ _) ?_;(case x1=>rfl))
       refine (HBS.o wr B8.o bl bo bc (HB.o wr M8.o) hb2).mono ?_
       rintro e w9 ⟨rfl,b9⟩
       have B9:=ħ (B8.o.trans (b9.mono B8.o.size))
       rw[HBB.o]
       go_wp2_with fail
       go_ret
       exact⟨rfl,B9.o⟩
      | false =>
       go_upto_region 15 with (fail)
       go_wp2_with (refine Zbc (by rfl) 26 (.tmp 4) rfl (w.heap.size) ?x1 26 #[.slice qo qn qc,.slice mo mn mc,.slice uo un uc] (0,0) _ X8.o Tryz.underlying26 rfl (Za7 _ _ _) ?_;(case x1=>rfl))
       refine (HBS.o wr B8.o bl bo bc (HB.o wr M8.o) hb2).mono ?_
       rintro e w9 ⟨rfl,b9⟩
       have B9:=ħ (B8.o.trans (b9.mono B8.o.size))
       rw[HBB.o]
       go_wp2_with fail
       go_ret
       exact⟨rfl,B9.o⟩
end
end Go.Proofs.YtbcgocpihobjnaaGreatDoor
