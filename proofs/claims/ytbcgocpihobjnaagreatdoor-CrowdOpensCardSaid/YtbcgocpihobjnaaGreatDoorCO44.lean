import Derived.Test.YtbcgocpihobjnaaGreatDoorCO43
import Derived.Test.YtbcgocpihobjnaaGreatDoorCO40
import Derived.Test.YtbcgocpihobjnaaGreatDoorCO38
import Derived.Test.YtbcgocpihobjnaaGreatDoorCO34
import Derived.Test.YtbcgocpihobjnaaGreatDoorCO37
import Derived.Test.YtbcgocpihobjnaaGreatDoorCO24
import Derived.Test.YtbcgocpihobjnaaGreatDoorCO13
import Derived.Test.YtbcgocpihobjnaaGreatDoorCO41
import Derived.Test.YtbcgocpihobjnaaGreatDoorCO35
set_option linter.unusedVariables false
set_option linter.unusedSimpArgs false
set_option maxHeartbeats 32000000
set_option maxRecDepth 100000
namespace Go.Proofs.YtbcgocpihobjnaaGreatDoor
section
open Go Go.ChangeShapes Go.WideShapes Go.ChangeAt Go.WideMaps Go.WideElems Go.RowKit
theorem Z07:Tryz.prog.cellsOf 44=3:=by kernel_rfl
theorem Z0o:Tryz.prog.cellsOf 39=4:=by kernel_rfl
theorem cLP:Tryz.prog.cellsOf 22=1:=by kernel_rfl
theorem cLB:Tryz.prog.cellsOf 42=1:=by kernel_rfl
theorem cLI:Tryz.prog.cellsOf 33=1:=by kernel_rfl
theorem cLM:Tryz.prog.cellsOf 23=1:=by kernel_rfl
theorem cLS:Tryz.prog.cellsOf 24=1:=by kernel_rfl
instance:Inhabited Use:=⟨⟨0,0,0,0⟩⟩
instance:Inhabited Wsh:=⟨⟨0,0⟩⟩
instance:Inhabited Mem:=⟨⟨[],[],0⟩⟩
section
variable {H:Type} {enc:TypeId×Value→H} {W:World}
theorem Zt4 {fuel:Nat} {v:Value} {y:DataW H×List MemPlace} (h:DataW.trod enc Tryz.prog W 0 (fun _=>true) true fuel 33 [v]=some y) :
  ∃ (l:List Int) (ao:Option Addr) (n c:Nat),v = .slice ao n c∧n=l.length∧n≤c∧n≤9223372036854775807∧Zak Zbf W ao l:=by
 obtain⟨ao,n,c,e4,hmc,hcm,hel⟩:=Zcm Tryz.underlying33 cI (by decide) h
 have hlen:n≤9223372036854775807:=Nat.le_trans hmc (Nat.le_trans hcm (by decide))
 rcases hel with h0 | ⟨g,off,n',h1,h2,h3,h4⟩
 ·exact⟨[],ao,n,c,e4,h0,hmc,hlen,.inl rfl⟩
 ·obtain⟨l,hl,hk⟩:=Zdv (α:=Int) n (fun i x=>W.cell? ⟨g,off+i,none⟩=some (.int .i64 x)) (fun i hi=>by
   obtain⟨cs,y,h5,h6,h7⟩:=h4 i hi
   match cs,h5 with
   | [c0],_ =>
    obtain⟨k,e0,-,-⟩:=DataW.trod_int Tryz.underlying3 h7
    simp only[List.cons.injEq,and_true] at e0
    subst e0
    have:=h6 0 _ rfl
    rw[Nat.mul_one,Nat.add_zero] at this
    exact⟨k,this⟩)
  refine⟨l,ao,n,c,e4,hl.symm,hmc,hlen,.inr ⟨g,off,h1,h2,fun j u hj=>?_⟩⟩
  rw[← Zd4,ivs,List.getElem?_map] at hj
  obtain⟨x,hx,rfl⟩:=Option.map_eq_some_iff.1 hj
  exact hk j x hx
theorem Zt5 {fuel:Nat} {v:Value} {y:DataW H×List MemPlace} (h:DataW.trod enc Tryz.prog W 0 (fun _=>true) true fuel 22 [v]=some y) :
  ∃ (l:List Prd) (ao:Option Addr) (n c:Nat),v = .slice ao n c∧n=l.length∧n≤c∧n≤9223372036854775807∧Zep W (fun _=>True) l ao∧(∀ p∈l,ByL p)∧(∀ p∈l,Zsb p):=by
 obtain⟨ao,n,c,e4,hmc,hcm,hel⟩:=Zcm Tryz.underlying22 cP (by decide) h
 have hlen:n≤9223372036854775807:=Nat.le_trans hmc (Nat.le_trans hcm (by decide))
 rcases hel with h0 | ⟨g,off,n',h1,h2,h3,h4⟩
 ·exact⟨[],ao,n,c,e4,h0,hmc,hlen,.inl rfl,by simp,by simp⟩
 ·obtain⟨ks,hkl,hk⟩:=Zdv (α:=Prd) n (fun i p=>(∃ vs,Zal W (fun g=>g<W.heap.size) p vs∧Zav W g (off+i*5) vs)∧ByL p∧Zsb p) (fun i hi=>by
   obtain⟨cs,y,h5,h6,h7⟩:=h4 i hi
   obtain⟨p,hp1,hp2,hp3⟩:=Zte n' cs y h7
   exact⟨p,⟨cs,hp1,h6⟩,hp2,hp3⟩)
  have hpr:Zep W (fun g=>g<W.heap.size) ks ao:=.inr ⟨g,off,h1,h2,h2,Zkh ks g off (fun i p hp=>(hk i p hp).1)⟩
  refine⟨ks,ao,n,c,e4,hkl.symm,hmc,hlen,hpr.mono (fun _ _ _=>trivial),fun q hq=>?_,fun q hq=>?_⟩
  ·obtain⟨i,hi⟩:=List.mem_iff_getElem?.1 hq
   exact (hk i q hi).2.1
  ·obtain⟨i,hi⟩:=List.mem_iff_getElem?.1 hq
   exact (hk i q hi).2.2
theorem Zt6 {fuel:Nat} {v:Value} {y:DataW H×List MemPlace} (h:DataW.trod enc Tryz.prog W 0 (fun _=>true) true fuel 42 [v]=some y) :
  ∃ (l:List Bnd) (ao:Option Addr) (n c:Nat),v = .slice ao n c∧n=l.length∧n≤c∧n≤9223372036854775807∧(∀ b∈l,NmL b.n)∧Zak Zxd W ao l:=by
 obtain⟨ao,n,c,e4,hmc,hcm,hel⟩:=Zcm Tryz.underlying42 cB (by decide) h
 have hlen:n≤9223372036854775807:=Nat.le_trans hmc (Nat.le_trans hcm (by decide))
 rcases hel with h0 | ⟨g,off,n',h1,h2,h3,h4⟩
 ·exact⟨[],ao,n,c,e4,h0,hmc,hlen,by simp,.inl rfl⟩
 ·obtain⟨l,hl,hk⟩:=Zdv (α:=Bnd) n (fun i b=>(NmL b.n)∧Zav W g (off+i*2) (Zxd b)) (fun i hi=>by
   obtain⟨cs,y,h5,h6,h7⟩:=h4 i hi
   obtain⟨xs,n2,hn,-,hl,hxl,hf⟩:=DataW.trod_struct Tryz.underlying164 h7
   match cs,h5 with
   | [c0,c1],_ =>
    match xs,hxl with
    | [y0,y1],_ =>
     have f0:DataW.trod enc Tryz.prog W 0 (fun _=>true) true n2 9 (([c0,c1]:List Value).drop 0 |>.take (Tryz.prog.cellsOf 9))=some y0:=hf 0 _ rfl
     have f1:DataW.trod enc Tryz.prog W 0 (fun _=>true) true n2 3 (([c0,c1]:List Value).drop 1 |>.take (Tryz.prog.cellsOf 3))=some y1:=hf 1 _ rfl
     rw[cS] at f0
     rw[cI] at f1
     obtain⟨s0,e0,-,z0⟩:=DataW.trod_string Tryz.underlying9 (show DataW.trod enc Tryz.prog W 0 (fun _=>true) true n2 9 [c0]=some y0 from f0)
     obtain⟨k1,e1,-,-⟩:=DataW.trod_int Tryz.underlying3 (show DataW.trod enc Tryz.prog W 0 (fun _=>true) true n2 3 [c1]=some y1 from f1)
     simp only[List.cons.injEq,and_true] at e0 e1
     subst e0 e1
     obtain⟨l0,rfl,b0,g0⟩:=Zd6 s0
     exact⟨⟨l0,k1⟩,⟨b0,by rw[g0];exact Nat.le_trans z0 (by decide)⟩,h6⟩)
  refine⟨l,ao,n,c,e4,hl.symm,hmc,hlen,fun b hb=>?_,.inr ⟨g,off,h1,h2,fun j u hj=>?_⟩⟩
  ·obtain⟨i,hi⟩:=List.mem_iff_getElem?.1 hb
   exact (hk i b hi).1
  ·have hjl:=(List.getElem?_eq_some_iff.1 hj).1
   rw[Zbr Zxd 2 Zkf] at hjl
   have hi:j/2<l.length:=by omega
   have hb:=List.getElem?_eq_getElem hi
   have hjj:j=j/2*2+j%2:=by omega
   have h9:=(hk (j/2) _ hb).2 (j%2) u (by
    rw[← Zcp Zxd 2 Zkf l (j/2) (j%2) _ hb (Nat.mod_lt _ (by decide)),← hjj];exact hj)
   rwa [Nat.add_assoc,← hjj] at h9
theorem Zt7 {fuel:Nat} {v:Value} {y:DataW H×List MemPlace} (h:DataW.trod enc Tryz.prog W 0 (fun _=>true) true fuel 24 [v]=some y) :
  ∃ (l:List Use) (ao:Option Addr) (n c:Nat),v = .slice ao n c∧n=l.length∧n≤c∧n≤9223372036854775807∧(∀ b∈l,True)∧Zak Zbv W ao l:=by
 obtain⟨ao,n,c,e4,hmc,hcm,hel⟩:=Zcm Tryz.underlying24 Z0o (by decide) h
 have hlen:n≤9223372036854775807:=Nat.le_trans hmc (Nat.le_trans hcm (by decide))
 rcases hel with h0 | ⟨g,off,n',h1,h2,h3,h4⟩
 ·exact⟨[],ao,n,c,e4,h0,hmc,hlen,by simp,.inl rfl⟩
 ·obtain⟨l,hl,hk⟩:=Zdv (α:=Use) n (fun i b=>(True)∧Zav W g (off+i*4) (Zbv b)) (fun i hi=>by
   obtain⟨cs,y,h5,h6,h7⟩:=h4 i hi
   obtain⟨xs,n2,hn,-,hl,hxl,hf⟩:=DataW.trod_struct Tryz.underlying39 h7
   match cs,h5 with
   | [c0,c1,c2,c3],_ =>
    match xs,hxl with
    | [y0,y1,y2,y3],_ =>
     have f0:DataW.trod enc Tryz.prog W 0 (fun _=>true) true n2 3 (([c0,c1,c2,c3]:List Value).drop 0 |>.take (Tryz.prog.cellsOf 3))=some y0:=hf 0 _ rfl
     have f1:DataW.trod enc Tryz.prog W 0 (fun _=>true) true n2 3 (([c0,c1,c2,c3]:List Value).drop 1 |>.take (Tryz.prog.cellsOf 3))=some y1:=hf 1 _ rfl
     have f2:DataW.trod enc Tryz.prog W 0 (fun _=>true) true n2 3 (([c0,c1,c2,c3]:List Value).drop 2 |>.take (Tryz.prog.cellsOf 3))=some y2:=hf 2 _ rfl
     have f3:DataW.trod enc Tryz.prog W 0 (fun _=>true) true n2 3 (([c0,c1,c2,c3]:List Value).drop 3 |>.take (Tryz.prog.cellsOf 3))=some y3:=hf 3 _ rfl
     rw[cI] at f0
     rw[cI] at f1
     rw[cI] at f2
     rw[cI] at f3
     obtain⟨k0,e0,-,-⟩:=DataW.trod_int Tryz.underlying3 (show DataW.trod enc Tryz.prog W 0 (fun _=>true) true n2 3 [c0]=some y0 from f0)
     obtain⟨k1,e1,-,-⟩:=DataW.trod_int Tryz.underlying3 (show DataW.trod enc Tryz.prog W 0 (fun _=>true) true n2 3 [c1]=some y1 from f1)
     obtain⟨k2,e2,-,-⟩:=DataW.trod_int Tryz.underlying3 (show DataW.trod enc Tryz.prog W 0 (fun _=>true) true n2 3 [c2]=some y2 from f2)
     obtain⟨k3,e3,-,-⟩:=DataW.trod_int Tryz.underlying3 (show DataW.trod enc Tryz.prog W 0 (fun _=>true) true n2 3 [c3]=some y3 from f3)
     simp only[List.cons.injEq,and_true] at e0 e1 e2 e3
     subst e0 e1 e2 e3
     exact⟨⟨k0,k1,k2,k3⟩,trivial,h6⟩)
  refine⟨l,ao,n,c,e4,hl.symm,hmc,hlen,fun b hb=>?_,.inr ⟨g,off,h1,h2,fun j u hj=>?_⟩⟩
  ·obtain⟨i,hi⟩:=List.mem_iff_getElem?.1 hb
   exact (hk i b hi).1
  ·have hjl:=(List.getElem?_eq_some_iff.1 hj).1
   rw[Zbr Zbv 4 Zap] at hjl
   have hi:j/4<l.length:=by omega
   have hb:=List.getElem?_eq_getElem hi
   have hjj:j=j/4*4+j%4:=by omega
   have h9:=(hk (j/4) _ hb).2 (j%4) u (by
    rw[← Zcp Zbv 4 Zap l (j/4) (j%4) _ hb (Nat.mod_lt _ (by decide)),← hjj];exact hj)
   rwa [Nat.add_assoc,← hjj] at h9
theorem Zt8 {fuel:Nat} {v:Value} {y:DataW H×List MemPlace} (h:DataW.trod enc Tryz.prog W 0 (fun _=>true) true fuel 23 [v]=some y) :
  ∃ (l:List Mem) (ao:Option Addr) (n c:Nat),v = .slice ao n c∧n=l.length∧n≤c∧n≤9223372036854775807∧(∀ m∈l,(∀ b∈m.b,NmL b.n)∧m.b.length≤9223372036854775807∧m.t.length≤9223372036854775807)∧Zho W l ao:=by
 obtain⟨ao,n,c,e4,hmc,hcm,hel⟩:=Zcm Tryz.underlying23 Z07 (by decide) h
 have hlen:n≤9223372036854775807:=Nat.le_trans hmc (Nat.le_trans hcm (by decide))
 rcases hel with h0 | ⟨g,off,n',h1,h2,h3,h4⟩
 ·exact⟨[],ao,n,c,e4,h0,hmc,hlen,by simp,.inl rfl⟩
 ·obtain⟨l,hl,hk⟩:=Zdv (α:=Mem) n (fun i m=>((∀ b∈m.b,NmL b.n)∧m.b.length≤9223372036854775807∧m.t.length≤9223372036854775807)∧∃ cs,Zsm W m cs∧Zav W g (off+i*3) cs) (fun i hi=>by
   obtain⟨cs,y,h5,h6,h7⟩:=h4 i hi
   obtain⟨xs,n2,hn,-,hl,hxl,hf⟩:=DataW.trod_struct Tryz.underlying44 h7
   match cs,h5 with
   | [c0,c1,c2],_ =>
    match xs,hxl with
    | [y0,y1,y2],_ =>
     have f0:DataW.trod enc Tryz.prog W 0 (fun _=>true) true n2 42 (([c0,c1,c2]:List Value).drop 0 |>.take (Tryz.prog.cellsOf 42))=some y0:=hf 0 _ rfl
     have f1:DataW.trod enc Tryz.prog W 0 (fun _=>true) true n2 33 (([c0,c1,c2]:List Value).drop 1 |>.take (Tryz.prog.cellsOf 33))=some y1:=hf 1 _ rfl
     have f2:DataW.trod enc Tryz.prog W 0 (fun _=>true) true n2 3 (([c0,c1,c2]:List Value).drop 2 |>.take (Tryz.prog.cellsOf 3))=some y2:=hf 2 _ rfl
     rw[cLB] at f0
     rw[cLI] at f1
     rw[cI] at f2
     obtain⟨bl,bo,bn,bc,e0,hb1,hb2,hb3,hb4,hb5⟩:=Zt6 (show DataW.trod enc Tryz.prog W 0 (fun _=>true) true n2 42 [c0]=some y0 from f0)
     obtain⟨tl,ta,tn,tc,e1,ht1,ht2,ht3,ht4⟩:=Zt4 (show DataW.trod enc Tryz.prog W 0 (fun _=>true) true n2 33 [c1]=some y1 from f1)
     obtain⟨k,e2,-,-⟩:=DataW.trod_int Tryz.underlying3 (show DataW.trod enc Tryz.prog W 0 (fun _=>true) true n2 3 [c2]=some y2 from f2)
     simp only[List.cons.injEq,and_true] at e2
     subst e0 e1 e2 hb1 ht1
     refine⟨⟨bl,tl,k⟩,⟨hb4,hb3,ht3⟩,_,⟨bo,bc,ta,tc,rfl,?_,ht4⟩,h6⟩
     rcases hb5 with hb5 | ⟨g5,o5,q1,q2,q3⟩
     ·exact .inl hb5
     ·exact .inr ⟨g5,o5,q1,trivial,q2,q3⟩)
  refine⟨l,ao,n,c,e4,hl.symm,hmc,hlen,fun m hm=>?_,.inr ⟨g,off,h1,h2,fun i m hm=>(hk i m hm).2⟩⟩
  obtain⟨i,hi⟩:=List.mem_iff_getElem?.1 hm
  exact (hk i m hi).1
theorem Zwz {r:Reach} {b0:Nat} {v:Value} {d:DataW H} {p:List MemPlace} (hv:Value.okWide Tryz.prog W r b0 26 v) (h:DataW.Trod enc Tryz.prog W 0 (fun _=>true) true 26 v d p) :
  ∃ (c:Crw) (cs:List Value),v = .agg cs.toArray∧Zgj W c cs∧LenC c∧(∀ p∈c.qs,ByL p)∧(∀ m∈c.ms,∀ b∈m.b,NmL b.n):=by
 obtain⟨cs,rfl,hsz⟩:=okWide_struct Tryz.underlying26 hv
 obtain⟨fuel,hf⟩:=h
 have hcs:(Value.agg cs).cells=cs:=rfl
 rw[hcs] at hf
 obtain⟨xs,n2,hn,-,hl,hxl,hf⟩:=DataW.trod_struct Tryz.underlying26 hf
 have hl3:cs.toList.length=3:=by rw[hl];kernel_rfl
 obtain⟨l0⟩:=cs
 match l0,hl3 with
 | [c0,c1,c2],_ =>
  match xs,hxl with
  | [y0,y1,y2],_ =>
   have f0:DataW.trod enc Tryz.prog W 0 (fun _=>true) true n2 22 (([c0,c1,c2]:List Value).drop 0 |>.take (Tryz.prog.cellsOf 22))=some y0:=hf 0 _ rfl
   have f1:DataW.trod enc Tryz.prog W 0 (fun _=>true) true n2 23 (([c0,c1,c2]:List Value).drop 1 |>.take (Tryz.prog.cellsOf 23))=some y1:=hf 1 _ rfl
   have f2:DataW.trod enc Tryz.prog W 0 (fun _=>true) true n2 24 (([c0,c1,c2]:List Value).drop 2 |>.take (Tryz.prog.cellsOf 24))=some y2:=hf 2 _ rfl
   rw[cLP] at f0
   rw[cLM] at f1
   rw[cLS] at f2
   obtain⟨ql,qo,qn,qc,e0,hq1,hq2,hq3,hq4,hq5,hq6⟩:=Zt5 (show DataW.trod enc Tryz.prog W 0 (fun _=>true) true n2 22 [c0]=some y0 from f0)
   obtain⟨ml,mo,mn,mc,e1,hm1,hm2,hm3,hm4,hm5⟩:=Zt8 (show DataW.trod enc Tryz.prog W 0 (fun _=>true) true n2 23 [c1]=some y1 from f1)
   obtain⟨ul,uo,un,uc,e2,hu1,hu2,hu3,-,hu5⟩:=Zt7 (show DataW.trod enc Tryz.prog W 0 (fun _=>true) true n2 24 [c2]=some y2 from f2)
   subst e0 e1 e2 hq1 hm1 hu1
   exact⟨⟨ql,ml,ul⟩,_,rfl,⟨qo,qc,mo,mc,uo,uc,rfl,hq4,hm5,hu5,hu2⟩,⟨hq6,fun m hm=>(hm4 m hm).2,hq3,hm3,hu3⟩,hq5,fun m hm=>(hm4 m hm).1⟩
end
theorem Zyv {c:Crw} (hf:Zzu c=true) (hL:LenC c) (hb:∀ p∈c.qs,ByL p) (hm:∀ m∈c.ms,∀ b∈m.b,NmL b.n):CrwOk c∧c.us.length≤999∧c.ms.length≤65∧c.qs.length≤129:=by
 unfold Zzu at hf
 simp only[Bool.and_eq_true,List.all_eq_true] at hf
 obtain⟨⟨h1,h2⟩,h3⟩:=hf
 unfold Zd8 at h1
 simp only[Bool.and_eq_true,Bool.or_eq_true,decide_eq_true_eq] at h1
 refine⟨⟨fun p hp=>⟨hb p hp,?_⟩,fun m hmm=>⟨hm m hmm,?_,?_⟩,by omega,by omega,by omega⟩,by omega,by omega,by omega⟩
 ·have:=Zx5 (h2 p hp);omega
 ·have:=h3 m hmm
  unfold Zt3 at this
  simp only[Bool.and_eq_true,decide_eq_true_eq] at this
  omega
 ·have:=h3 m hmm
  unfold Zt3 at this
  simp only[Bool.and_eq_true,decide_eq_true_eq] at this
  omega
end
section
open Go.RowKit Go.Sort Go.Maps
def Z08 (c:Crw) (u m:Int):Tbl:=Zat c (Zbn c (Zau c) u.toNat m.toNat)
def okH (c:Crw) (u m:Int):Bool:=Zgm c u m&&Zcg (Z08 c u m)
def alH (c:Crw) (u m:Int):List Int:=(Zax c c.us.length 0 (Zbn c (Zau c) u.toNat m.toNat) []).map Int.ofNat
theorem Znx {c:Crw} (hn:c.us.length≤1000) {u m:Int} (h:okH c u m=true):(alH c u m).length=c.us.length∧Zio c (alH c u m)=true∧(alH c u m)[u.toNat]?=some m:=by
 unfold okH at h
 rw[Bool.and_eq_true] at h
 obtain⟨hf,hfe⟩:=h
 obtain⟨hv,h1,h2,h3,h4⟩:=Zwb hf
 obtain⟨g1,g2,g3⟩:=Zwd hv hn h2 h4 hfe
 refine⟨by unfold alH;rw[List.length_map,g1],g2,?_⟩
 unfold alH
 rw[List.getElem?_map]
 rw[List.getD_eq_getElem?_getD] at g3
 rw[List.getElem?_eq_getElem (by rw[g1];exact h2)] at g3 ⊢
 rw[Option.getD_some] at g3
 rw[g3]
 show some ((m.toNat:Nat):Int)=some m
 rw[Int.toNat_of_nonneg h3]
theorem Zyw {c:Crw} {u m:Int} (hv:Zam c=true) (h1:0≤u) (h2:u.toNat<c.us.length) (h3:0≤m) (h4:m.toNat<c.ms.length):Zgm c u m=true:=by
 unfold Zgm
 rw[hv,Zfm.2 ⟨h1,h2⟩,Zfm.2 ⟨h3,h4⟩];rfl
theorem Zw0 (w:World) (c:Crw) (cs:List Value) (B:Nat) (u m:Int) (ha:ArgC w c cs B) :
  Calls Tryz.prog 49 #[.agg cs.toArray,.int .i64 u,.int .i64 m] w fun e w'=>Below w.heap.size w w' ∧
   if okH c u m=true then ∃ o cap,e = .returned (.tuple #[.slice o c.us.length cap,.bool true])∧Zak Zbf w' o (alH c u m) else e = .returned (.tuple #[.slice none 0 0,.bool false]):=by
 refine (Zyl w c cs B u m ha).mono ?_
 intro e w' h
 unfold Zzo at h
 obtain⟨hb,hr⟩:=h
 refine⟨hb,?_⟩
 have hnu:=ha.nu
 by_cases ho:okH c u m=true
 ·rw[if_pos ho]
  have hl:=(Znx (by omega) ho).1
  have ho':(Zgm c u m&&Zcg (Zat c (Zbn c (Zau c) u.toNat m.toNat)))=true:=ho
  rw[if_pos ho'] at hr
  obtain⟨o,cap,rfl,h2⟩:=hr
  unfold alH at hl
  rw[List.length_map] at hl
  exact⟨o,cap,by rw[hl],Zdy h2 rfl⟩
 ·rw[if_neg ho]
  have ho':¬ (Zgm c u m&&Zcg (Zat c (Zbn c (Zau c) u.toNat m.toNat)))=true:=ho
  rwa [if_neg ho'] at hr
end
section
open Go.RowKit Go.Sort Go.Maps
theorem Zw1 {P:Program} (w:World) (T ty E:TypeId) (i:TypeInfo) (hT:P.underlying T=some (.slice E)) (hi:P.info? E=some i) (b:Addr) (n cap:Nat) (x:Option Addr) (c:Nat) (hn:n≤cap) :
  (Builtin.append_ #[T,T] ty #[.slice (some b) n cap,.slice x 0 c]).run P w = .ok (.slice (some b) n cap) w:=by
 cases x<;>simp[Builtin.append_,run_underlying hT,sizeOf,typeInfo,hi,hn,Builtin.lenOf,Builtin.firstCells,loadCells,loadCellsFrom,storeCells]
theorem Z0p {α:Type} (f:α→List Value) {ops:Array Oper} {rest:List Oper} {o:Oper} {a:Act} {Q:Exit→Act→World→Prop} (T E:TypeId) (z:Value) (k bt:Nat)
  (hT:Tryz.prog.underlying T=some (.slice E)) (hE:(Tryz.prog.info? E).map (fun i=>(i.zero,i.size,i.bytes))=some (some z,k,bt)) (hz:z.cells.size=k) (hk:0<k) (hbt:bt≤1000) (hf:∀ x,(f x).length=k) (h1:∀ x,∀ u∈f x,u.oneCell'=true)
  (w1:World) (B:Nat) (hg:o.guard=none) (s x:Operand) (hop:o.op=Op.call { callee:=Callee.builtin Builtin.append,args:=#[s,x],argTypes:=#[T,T] })
  (b0:Addr) (cap n:Nat) (l:List α) (hs:a.eval s = .slice (some b0) n cap) (hO:OwnK w1 B k n cap (l.flatMap f) (some b0)) (hB:B≤w1.heap.size)
  (xo:Option Addr) (m c:Nat) (r:List α) (hx:a.eval x = .slice xo m c) (hm:m=r.length) (hr:Zak f w1 xo r)
  (b1:n+m≤1000000000)
  (hK:∀ g off cap' w',OwnK w' B k (n+m) cap' ((l++r).flatMap f) (some ⟨g,off,none⟩)→Below B w1 w'→wpList Tryz.prog ops Q rest (a.put o.dst (.slice (some ⟨g,off,none⟩) (n+m) cap')) w') :
  wpList Tryz.prog ops Q (o::rest) a w1:=by
 rcases Nat.eq_zero_or_pos m with h0 | h0
 ·have hr0:r=[]:=List.eq_nil_of_length_eq_zero (by omega)
  subst h0
  subst hr0
  obtain⟨i0,hi,hz0,hz1,hz2⟩:=Zek hE
  have hrun:=Zw1 (P:=Tryz.prog) w1 T o.type E i0 hT hi b0 n cap xo c hO.len_le.1
  obtain⟨g0,o0,hb0⟩:∃ g off,b0=⟨g,off,none⟩:=by cases hO;exact⟨_,_,rfl⟩
  subst hb0
  refine wpList_plain hg fun K hK'=>?_
  unfold Oper.wp
  simp[execOp,hop,resolve,invoke,builtin,hs,hx,hrun,Result.andThen]
  exact hK' _ _ (hK g0 o0 cap w1 (by rw[List.append_nil];exact hO) (Below.refl _ _))
 ·rcases hr with hr | ⟨g,off,rfl,hgl,hrd⟩
  ·rw[hr] at hm;simp at hm;omega
  refine Zz8 T E z k bt hT hE hz hk hbt w1 B hg s x hop (some b0) cap n (l.flatMap f) hs hO hB g off m c (r.flatMap f) hx ?_ h0 hrd ?_ b1 ?_
  ·rw[hm,List.length_flatMap,List.map_congr_left (fun x _=>hf x),List.map_const',List.sum_replicate_nat]
  ·intro u hu
   obtain⟨y,-,hy⟩:=List.mem_flatMap.1 hu
   exact h1 y u hy
  ·intro g' off' cap' w' ho hgr _
   refine hK g' off' cap' w' (by rw[List.flatMap_append];exact ho) ⟨hgr.os,hgr.tape,hgr.output,hgr.size,fun i hi=>?_⟩
   refine hgr.block i (Nat.lt_of_lt_of_le hi hB) (fun e=>?_)
   have:=(hO.blk_lt e.symm).1
   omega
theorem Zxl {α:Type} (f:α→List Value) {ops:Array Oper} {rest:List Oper} {o:Oper} {a:Act} {Q:Exit→Act→World→Prop} (T E:TypeId) (z:Value) (k bt:Nat)
  (hT:Tryz.prog.underlying T=some (.slice E)) (hE:(Tryz.prog.info? E).map (fun i=>(i.zero,i.size,i.bytes))=some (some z,k,bt)) (hz:z.cells.size=k) (hk:0<k) (hbt:bt≤1000) (hf:∀ x,(f x).length=k) (h1:∀ x,∀ u∈f x,u.oneCell'=true)
  (w1:World) (B:Nat) (hg:o.guard=none) (s x:Operand) (hop:o.op=Op.call { callee:=Callee.builtin Builtin.append,args:=#[s,x],argTypes:=#[T,T] })
  (b0:Addr) (cap:Nat) (hs:a.eval s = .slice (some b0) 0 cap) (hO:OwnK w1 B k 0 cap [] (some b0)) (hB:B≤w1.heap.size)
  (xo:Option Addr) (m c:Nat) (r:List α) (hx:a.eval x = .slice xo m c) (hm:m=r.length) (hr:Zak f w1 xo r)
  (b1:m≤1000000)
  (hK:∀ g off cap' w',OwnK w' B k m cap' (r.flatMap f) (some ⟨g,off,none⟩)→Below B w1 w'→wpList Tryz.prog ops Q rest (a.put o.dst (.slice (some ⟨g,off,none⟩) m cap')) w') :
  wpList Tryz.prog ops Q (o::rest) a w1:=by
 refine Z0p f T E z k bt hT hE hz hk hbt hf h1 w1 B hg s x hop b0 cap 0 [] hs hO hB xo m c r hx hm hr (by omega) ?_
 intro g off cap' w' ho hb
 rw[Nat.zero_add] at ho ⊢
 exact hK g off cap' w' ho hb
theorem Zaf.off {w:World} {g:Nat} {t:TypeId} {cs:List Value} (h:Zaf w g t cs) {p:Addr} (hp:g≠p.block) (u:Value):Zaf (w.setCell p u) g t cs:=by
 unfold Zaf
 rw[Below.heap_setCell _ _ _ _ hp]
 exact h
theorem Zzv {w:World} {c:Crw} {qo mo uo:Option Addr} {qn mn un qc mc uc:Nat} (h:Zgj w c [.slice qo qn qc,.slice mo mn mc,.slice uo un uc]):Zak Zbv w uo c.us∧un=c.us.length∧un≤uc:=by
 obtain⟨qo',qc',mo',mc',uo',uc',he,h1,h2,h3,h4⟩:=h
 simp only[List.cons.injEq,Value.slice.injEq,and_true] at he
 obtain⟨⟨rfl,rfl,rfl⟩,⟨rfl,rfl,rfl⟩,rfl,rfl,rfl⟩:=he
 exact⟨h3,rfl,h4⟩
theorem Zpe (x:Use):∀ u∈Zbv x,u.oneCell'=true:=by
 intro u hu
 unfold Zbv at hu
 simp only[List.mem_cons,List.not_mem_nil,or_false] at hu
 rcases hu with rfl | rfl | rfl | rfl<;>rfl
def Zq7 (x:Use) (m:Int):Use:=⟨x.q,x.w,x.f,m⟩
theorem Zt9 (l:List Use) (i:Nat) (b:Use) (hb:l[i]?=some b) (m:Int):(l.flatMap Zbv).set (i*4+3) (.int .i64 m)=(l.set i (Zq7 b m)).flatMap Zbv:=by
 induction l generalizing i with
 | nil=>simp at hb
 | cons x l ih =>
  cases i with
  | zero =>
   simp only[List.getElem?_cons_zero,Option.some.injEq] at hb
   subst hb
   rfl
  | succ i =>
   rw[List.getElem?_cons_succ] at hb
   rw[List.set_cons_succ,List.flatMap_cons,List.flatMap_cons,← ih i hb]
   rw[List.set_append_right _ _ (by rw[Zap];omega),Zap]
   rw[show (i+1)*4+3-4=i*4+3 by omega]
theorem OwnK.setUse {w:World} {B n cap g off:Nat} {l:List Use} (h:OwnK w B 4 n cap (l.flatMap Zbv) (some ⟨g,off,none⟩)) {i:Nat} {b:Use} (hb:l[i]?=some b) (m:Int) :
  OwnK (w.setCell ⟨g,off+i*4+3,none⟩ (.int .i64 m)) B 4 n cap ((l.set i (Zq7 b m)).flatMap Zbv) (some ⟨g,off,none⟩)∧w.frozen? ⟨g,off+i*4+3,none⟩=false∧B≤g:=by
 have hi:=(List.getElem?_eq_some_iff.1 hb).1
 have hlen:(l.flatMap Zbv).length=l.length*4:=by rw[List.length_flatMap,List.map_congr_left (fun x _=>Zap x),List.map_const',List.sum_replicate_nat]
 have h1:=h.setAt (i*4+3) (by rw[hlen];omega) (.int .i64 m)
 obtain⟨-,-,h2,h3⟩:=h.reads
 have h4:=h.count
 have h5:=h.len_le.1
 rw[Zt9 l i b hb m,← Nat.add_assoc] at h1
 refine⟨h1,?_,h2⟩
 have:=h3 (i*4+3) (by rw[hlen] at h4;omega)
 rwa [← Nat.add_assoc] at this
def Zqt (c:Crw) (us:List Use):Crw:=⟨c.qs,c.ms,us⟩
theorem Zmx {w:World} {c:Crw} {qo mo uo:Option Addr} {qn mn un qc mc uc B:Nat} (h:ArgC w c [.slice qo qn qc,.slice mo mn mc,.slice uo un uc] B) {us:List Use} {xo:Option Addr} {xc n:Nat} (hu:Zak Zbv w xo us) (hn:n=us.length) (hl:n≤xc) (h9:us.length≤999):ArgC w (Zqt c us) [.slice qo qn qc,.slice mo mn mc,.slice xo n xc] B:=by
 obtain⟨⟨qo',qc',mo',mc',uo',uc',he,h1,h2,h3,h4⟩,htab,hok,hnu⟩:=h
 simp only[List.cons.injEq,Value.slice.injEq,and_true] at he
 obtain⟨⟨rfl,rfl,rfl⟩,⟨rfl,rfl,rfl⟩,-,-,-⟩:=he
 exact⟨⟨_,_,_,_,_,_,by rw[hn];rfl,h1,h2,hu,by show us.length≤xc;omega⟩,htab,⟨hok.q,hok.m,hok.nq,hok.nm,by show us.length≤1000000;omega⟩,h9⟩
theorem Zqu (c:Crw):Zam c=true↔c.qs.length≤128∧c.ms.length≤64∧c.us.length≤4096∧(∀ p∈c.qs,Zbm p=true)∧(∀ m∈c.ms,Zdu m=true)∧∀ x∈c.us,Zcd c.qs.length c.ms.length x=true:=by
 constructor
 ·exact Zaq
 ·rintro⟨h1,h2,h3,h4,h5,h6⟩
  unfold Zam
  rw[decide_eq_true h1,decide_eq_true h2,decide_eq_true h3]
  have e1:c.qs.any (fun q=>!Zbm q)=false:=by rw[List.any_eq_false];intro q hq;rw[h4 q hq];decide
  have e2:c.ms.any (fun m=>!Zdu m)=false:=by rw[List.any_eq_false];intro q hq;rw[h5 q hq];decide
  have e3:c.us.any (fun x=>!Zcd c.qs.length c.ms.length x)=false:=by rw[List.any_eq_false];intro q hq;rw[h6 q hq];decide
  rw[e1,e2,e3];rfl
theorem Zny {c:Crw} {us:List Use} (h:Zam c=true) (hl:us.length≤4096) (hu:∀ x∈us,Zcd c.qs.length c.ms.length x=true):Zam (Zqt c us)=true:=by
 obtain⟨h1,h2,h3,h4,h5,h6⟩:=Zaq h
 exact (Zqu _).2 ⟨h1,h2,hl,h4,h5,hu⟩
def Zgn (c:Crw) (u:Nat) (m:Int):Crw:=Zqt c (c.us.set u (Zq7 (c.us.getD u ⟨0,0,0,0⟩) m))
theorem Zyx {c:Crw} {u:Nat} (hu:u<c.us.length):c.us.getD u ⟨0,0,0,0⟩=c.us[u]:=by rw[List.getD_eq_getElem?_getD,List.getElem?_eq_getElem hu,Option.getD_some]
theorem Zqv {nq nm:Nat} {x:Use} (h:Zcd nq nm x=true) {m:Int} (h0:0≤m) (h1:m.toNat<nm):Zcd nq nm (Zq7 x m)=true:=by
 unfold Zcd at *
 rw[Bool.and_eq_true,Bool.and_eq_true,Bool.and_eq_true] at *
 refine⟨h.1,?_⟩
 unfold inB Zq7
 rw[Bool.and_eq_true,decide_eq_true_eq,decide_eq_true_eq]
 show -1≤m∧m≤_
 omega
theorem Zjy {c:Crw} {u:Nat} {m:Int} (hv:Zam c=true) (hu:u<c.us.length) (h0:0≤m) (h1:m.toNat<c.ms.length):Zam (Zgn c u m)=true:=by
 obtain⟨g1,g2,g3,g4,g5,g6⟩:=Zaq hv
 refine Zny hv (by rw[List.length_set];exact g3) (fun x hx=>?_)
 rcases List.mem_or_eq_of_mem_set hx with h | h
 ·exact g6 x h
 ·rw[h,Zyx hu]
  exact Zqv (g6 _ (List.getElem_mem hu)) h0 h1
theorem Zk2 (c:Crw) (u:Nat) (m:Int):(Zgn c u m).us.length=c.us.length:=by show (c.us.set u _).length=_;rw[List.length_set]
theorem Zyy (c:Crw) (H:List (List Bool)) (x:Use) {k:Nat} (hk:k<c.ms.length):(Zdm c H x).getD k false=Zq5 c H x k:=by
 unfold Zdm
 rw[List.getD_eq_getElem?_getD,List.getElem?_map,List.getElem?_range hk];rfl
theorem Znz {c:Crw} (us:List Use) {v:Nat} (hv:v<us.length) {k:Nat} (hk:k<c.ms.length):(Zat (Zqt c us) (Zau (Zqt c us))).can v k=Zq5 c (Zaj c) (us.getD v ⟨0,0,0,0⟩) k:=by
 show ((us.map (Zdm c (Zaj c))).getD v []).getD k false=_
 have h1:(us.map (Zdm c (Zaj c))).getD v []=Zdm c (Zaj c) us[v]:=by rw[List.getD_eq_getElem?_getD,List.getElem?_map,List.getElem?_eq_getElem hv];rfl
 have h2:us.getD v ⟨0,0,0,0⟩=us[v]:=by rw[List.getD_eq_getElem?_getD,List.getElem?_eq_getElem hv];rfl
 rw[h1,h2,Zyy c _ _ hk]
theorem Zyz {c:Crw} (x:Use) (hx:x.h = -1) {m:Int} (h0:0≤m) (k:Nat):Zq5 c (Zaj c) (Zq7 x m) k=(Zq5 c (Zaj c) x k&&decide (k=m.toNat)):=by
 unfold Zq5 Zhu Zq7
 rw[hx]
 have e1:(m == -1)=false:=by rw[beq_eq_false_iff_ne];omega
 have e2:(m==((k:Nat):Int))=decide (k=m.toNat):=by
  rw[Bool.eq_iff_iff,beq_iff_eq,decide_eq_true_eq];omega
 have e3:((-1:Int) == -1)=true:=rfl
 rw[e1,e2,e3,Bool.false_or,Bool.true_or,Bool.and_true]
theorem Zk3 {c:Crw} {u:Nat} {m:Int} (hok:ReckOk c (Zau c)) (hu:u<c.us.length) (hh:(c.us.getD u ⟨0,0,0,0⟩).h = -1) (h0:0≤m) (h1:m.toNat<c.ms.length) (v k:Nat) (hv:v<c.us.length) (hk:k<c.ms.length):(Zat (Zgn c u m) (Zau (Zgn c u m))).can v k=(Zat c (Zbn c (Zau c) u m.toNat)).can v k∧(Zat (Zgn c u m) (Zau (Zgn c u m))).win v=(Zat c (Zau c)).win v:=by
 have hset:∀ v,v<c.us.length→(c.us.set u (Zq7 (c.us.getD u ⟨0,0,0,0⟩) m)).getD v ⟨0,0,0,0⟩=if v=u then Zq7 (c.us.getD u ⟨0,0,0,0⟩) m else c.us.getD v ⟨0,0,0,0⟩:=fun v hv=>by
  rw[List.getD_eq_getElem?_getD,List.getElem?_set]
  by_cases e:v=u
  ·subst e;rw[if_pos rfl,if_pos hu,if_pos rfl,Option.getD_some]
  ·rw[if_neg (fun h=>e h.symm),if_neg e,List.getD_eq_getElem?_getD]
 constructor
 ·have h2:=Znz (c:=c) (c.us.set u (Zq7 (c.us.getD u ⟨0,0,0,0⟩) m)) (v:=v) (by rw[List.length_set];exact hv) hk
  have h3:(Zat c (Zau c)).can v k=Zq5 c (Zaj c) (c.us.getD v ⟨0,0,0,0⟩) k:=Znz (c:=c) c.us hv hk
  have h4:(Zat c (Zau c)).can u m.toNat=Zq5 c (Zaj c) (c.us.getD u ⟨0,0,0,0⟩) m.toNat:=Znz (c:=c) c.us hu h1
  rw[Zkn hok hu v k hk,h3,h4]
  refine h2.trans ?_
  rw[hset v hv]
  by_cases e:v=u
  ·rw[if_pos e,if_pos e,Zyz _ hh h0]
   by_cases e2:k=m.toNat
   ·rw[← e2]
   ·rw[decide_eq_false e2,Bool.and_false,Bool.and_false]
  ·rw[if_neg e,if_neg e]
 ·show ((c.us.set u (Zq7 (c.us.getD u ⟨0,0,0,0⟩) m)).getD v ⟨0,0,0,0⟩).w.toNat=(c.us.getD v ⟨0,0,0,0⟩).w.toNat
  rw[hset v hv]
  by_cases e:v=u
  ·subst e;rw[if_pos rfl];rfl
  ·rw[if_neg e]
end
section
open Go.RowKit Go.Sort Go.Maps
def Zk4 (a b:List Int):Bool:=a.all (fun x=>b.any (fun y=>x==y))
theorem Zua {a b:List Int}:Zk4 a b=true↔∀ x∈a,x∈b:=by
 unfold Zk4
 rw[List.all_eq_true]
 constructor
 ·intro h x hx
  obtain⟨y,hy,e⟩:=List.any_eq_true.1 (h x hx)
  rw[beq_iff_eq] at e
  rw[e];exact hy
 ·intro h x hx
  exact List.any_eq_true.2 ⟨x,h x hx,by simp⟩
theorem Zpf (w:World) (a b:List Int) (ao bo:Option Addr) (ac bc:Nat) (ha:Zak Zbf w ao a) (hb:Zak Zbf w bo b) (hl:a.length≤1000000) (hl2:b.length≤1000000) :
  Calls Tryz.prog 26 #[.slice ao a.length ac,.slice bo b.length bc] w fun e w'=>e = .returned (.bool (Zk4 a b))∧Below w.heap.size w w':=by
 have HA:=ħ (fun W (hW:Below w.heap.size w W)=>ha.below hW)
 have HB:=ħ (fun W (hW:Below w.heap.size w W)=>hb.below hW)
 have HGA:Hid (∀ (i:Nat),i<a.length→∃ x,a[i]?=some x):=ħ (fun i h=>⟨_,List.getElem?_eq_getElem h⟩)
 have HGB:Hid (∀ (i:Nat),i<b.length→∃ x,b[i]?=some x):=ħ (fun i h=>⟨_,List.getElem?_eq_getElem h⟩)
 have HNB:Hid (∀ (x:Int) (k:Nat) (y:Int),b[k]?=some y→(b.take (k+1)).any (fun z=>x==z)=((b.take k).any (fun z=>x==z)||(x==y))):=ħ (fun x k y hy=>by
  rw[List.take_add_one,hy,List.any_append];simp)
 have HEB:Hid (∀ x:Int,(b.take b.length).any (fun z=>x==z)=b.any (fun z=>x==z)):=ħ (fun x=>by rw[List.take_length])
 have HNA:Hid (∀ (i:Nat) (x:Int),a[i]?=some x→(a.take (i+1)).all (fun x=>b.any (fun y=>x==y))=((a.take i).all (fun x=>b.any (fun y=>x==y))&&b.any (fun y=>x==y))):=ħ (fun i x hx=>by
  rw[List.take_add_one,hx,List.all_append];simp)
 have HEA:Hid ((a.take a.length).all (fun x=>b.any (fun y=>x==y))=Zk4 a b):=ħ (by rw[List.take_length];rfl)
 have HFA:Hid (∀ (i:Nat) (x:Int),a[i]?=some x→b.any (fun y=>x==y)=false→Zk4 a b=false):=ħ (fun i x hx h=>by
  unfold Zk4
  rw[List.all_eq_false]
  exact⟨x,List.mem_of_getElem? hx,by rw[h];decide⟩)
 clear ha hb
 generalize Zk4 a b=DE at *
 generalize hal:a.length=al at *
 generalize hbl:b.length=bl at *
 clear hal hbl
 go_enter Tryz.func26,Tryz.ntmps26
 go_wp2_with fail
 go_loopw [5] (fun iv wr=>∃ (i:Nat),iv = .int .i64 i∧i≤al∧Hid ((a.take i).all (fun x=>b.any (fun y=>x==y))=true)∧Hid (Below w.heap.size w wr)) (fun i _=>(al-intOf i).toNat)
 case atStart=>exact⟨0,rfl,by omega,ħ rfl,ħ (Below.refl _ _)⟩
 case round =>
  obtain⟨i,rfl,hi,HJ,BB⟩:=hrel
  have e2:IntKind.i64.wrap ((i:Int)+1)=((i+1:Nat):Int):=IntWalk.i64_in _ (by omega)
  by_cases hin:i<al
  ·have ii:(i:Int)<al:=by omega
   obtain⟨x,hx⟩:=HGA.o i hin
   have HX:=ħ hx
   clear hx
   go_upto_region 6 with (fail)
   go_wp2_with fail
   generalize wr=wo at *
   go_loopw [6,7] (fun fv kv wr=>∃ (k:Nat),kv = .int .i64 k∧k≤bl∧fv = .bool ((b.take k).any (fun z=>x==z))∧Hid (Below w.heap.size w wr)) (fun _ k _=>(bl-intOf k).toNat)
   case atStart=>exact⟨0,rfl,by omega,rfl,BB⟩
   case round =>
    clear BB
    obtain⟨k,rfl,hk,rfl,BB⟩:=hrel
    have e3:IntKind.i64.wrap ((k:Int)+1)=((k+1:Nat):Int):=IntWalk.i64_in _ (by omega)
    by_cases hkn:k<bl
    ·have kk:(k:Int)<bl:=by omega
     obtain⟨y,hy⟩:=HGB.o k hkn
     have HN:=ħ (HNB.o x k y hy)
     obtain⟨ga,oa,hao,hga,a0⟩:=(HA.o wr BB.o).int i x HX.o
     obtain⟨gb,ob,hbo,hgb,b0⟩:=(HB.o wr BB.o).int k y hy
     have HAO:=ħ hao
     have HBO:=ħ hbo
     subst hao
     subst hbo
     clear hga hgb hy
     obtain⟨fb,hfb⟩:∃ t,(b.take k).any (fun z=>x==z)=t:=⟨_,rfl⟩
     rw[hfb] at HN ⊢
     clear hfb
     cases fb with
     | true =>
      go_upto_region 8 with (fail)
      go_quiet (fail)
      have B3:=ħ (below_drewN BB.o nq)
      clear a0 b0 BB
      generalize wr.drewN nq=wd at *
      go_wp2_with fail
      go_roundw
      case rel=>exact⟨k+1,by go_num,by omega,by rw[HN.o];rfl,B3⟩
      case measure=>simp only[intOf];omega
     | false =>
      obtain⟨xb,hxb⟩:∃ t,(x==y)=t:=⟨_,rfl⟩
      rw[hxb] at HN
      cases xb with
      | true =>
       go_upto_region 8 with (fail)
       go_quiet (fail)
       have B3:=ħ (below_drewN BB.o nq)
       clear a0 b0 BB
       generalize wr.drewN nq=wd at *
       go_wp2_with fail
       go_roundw
       case rel=>exact⟨k+1,by go_num,by omega,by rw[HN.o];rfl,B3⟩
       case measure=>simp only[intOf];omega
      | false =>
       go_upto_region 8 with (fail)
       go_quiet (fail)
       have B3:=ħ (below_drewN BB.o nq)
       clear a0 b0 BB
       generalize wr.drewN nq=wd at *
       go_wp2_with fail
       go_roundw
       case rel=>exact⟨k+1,by go_num,by omega,by rw[HN.o];rfl,B3⟩
       case measure=>simp only[intOf];omega
    ·have kk:¬ (k:Int)<bl:=by omega
     obtain rfl:k=bl:=by omega
     rw[HEB.o x]
     have HNX:=ħ (HNA.o i x HX.o)
     have HFX:=ħ (HFA.o i x HX.o)
     obtain⟨fb,hfb⟩:∃ t,b.any (fun z=>x==z)=t:=⟨_,rfl⟩
     rw[hfb] at HNX HFX ⊢
     clear hfb
     cases fb with
     | true =>
      go_wp2_with fail
      go_roundw
      case rel=>exact⟨i+1,by go_num,by omega,ħ (by rw[HNX.o,HJ.o];rfl),BB⟩
      case measure=>simp only[intOf];omega
     | false =>
      have HD:=ħ (HFX.o rfl)
      go_wp2_with fail
      go_ret
      exact⟨by rw[HD.o];rfl,BB.o⟩
  ·have ii:¬ (i:Int)<al:=by omega
   obtain rfl:al=i:=by omega
   have HD:Hid (DE=true):=ħ (by rw[← HEA.o];exact HJ.o)
   go_wp2_with fail
   go_ret
   exact⟨by rw[HD.o];rfl,BB.o⟩
end
section
open Go.RowKit Go.Sort Go.Maps
theorem Zzw {c:Crw} {u:Nat} {m:Int} (hv:Zam c=true) (hn:c.us.length≤1000) (hu:u<c.us.length) (h0:0≤m) (h1:m.toNat<c.ms.length):ReckOk (Zgn c u m) (Zau (Zgn c u m)):=Zar (Zjy hv hu h0 h1) (by rw[Zk2];exact hn)
theorem Zub {c:Crw} {u:Nat} {m:Int} (hok:ReckOk c (Zau c)) (hu:u<c.us.length) (hh:(c.us.getD u ⟨0,0,0,0⟩).h = -1) (h0:0≤m) (h1:m.toNat<c.ms.length) (a:Nat→Nat):Legal (Zat (Zgn c u m) (Zau (Zgn c u m))) a↔Legal (Zat c (Zau c)) a∧a u=m.toNat:=by
 rw[← Zdb hok hu h1 a]
 have hl:=Zk2 c u m
 constructor
 ·exact Zlo hl rfl (fun v k hv hk=>(Zk3 hok hu hh h0 h1 v k (by have hv:v<(Zgn c u m).us.length:=hv;rwa [hl] at hv) hk).1) (fun v hv=>(Zk3 hok hu hh h0 h1 v m.toNat (by have hv:v<(Zgn c u m).us.length:=hv;rwa [hl] at hv) h1).2) (fun m w _=>rfl)
 ·exact Zlo hl.symm rfl (fun v k hv hk=>(Zk3 hok hu hh h0 h1 v k hv hk).1.symm) (fun v hv=>(Zk3 hok hu hh h0 h1 v m.toNat hv h1).2.symm) (fun m w _=>rfl)
theorem Zh6 {c:Crw} (hv:Zam c=true) {i:Nat} {r:List Int} (h:(Zb2 c)[i]?=some r):i<c.us.length∧r=(Zfi c (Zau c) i).map Int.ofNat:=by
 unfold Zb2 at h
 rw[if_pos hv,List.getElem?_map] at h
 by_cases hi:i<c.us.length
 ·rw[List.getElem?_range hi] at h
  exact⟨hi,(Option.some.inj h).symm⟩
 ·rw[List.getElem?_eq_none (by rw[List.length_range];omega)] at h
  cases h
theorem Zpg {c:Crw} (hv:Zam c=true):(Zb2 c).length=c.us.length:=by
 unfold Zb2
 rw[if_pos hv,List.length_map,List.length_range]
theorem Zw2 {c:Crw} (hv:Zam c=true) {i:Nat} (hi:i<c.us.length):(Zb2 c)[i]?=some ((Zfi c (Zau c) i).map Int.ofNat):=by
 unfold Zb2
 rw[if_pos hv,List.getElem?_map,List.getElem?_range hi];rfl
theorem Zn0 {c:Crw} {C:List (List Bool)} (hok:ReckOk c C) {i m:Nat} (hi:i<c.us.length):m∈Zfi c C i↔m<c.ms.length∧∃ a,Legal (Zat c C) a∧a i=m:=by
 rw[Zwc]
 constructor
 ·rintro⟨h1,h2⟩;exact⟨h1,(Zf7 hok hi h1).1 h2⟩
 ·rintro⟨h1,h2⟩;exact⟨h1,(Zf7 hok hi h1).2 h2⟩
theorem Zuc {a b:List Nat}:Zk4 (a.map Int.ofNat) (b.map Int.ofNat)=true↔∀ x∈a,x∈b:=by
 rw[Zua]
 constructor
 ·intro h x hx
  obtain⟨y,hy,e⟩:=List.mem_map.1 (h (Int.ofNat x) (List.mem_map.2 ⟨x,hx,rfl⟩))
  rw[← Int.ofNat.inj e];exact hy
 ·intro h x hx
  obtain⟨y,hy,rfl⟩:=List.mem_map.1 hx
  exact List.mem_map.2 ⟨y,h y hy,rfl⟩
theorem Zph (c:Crw) (C:List (List Bool)) (i:Nat):(Zfi c C i).length≤c.ms.length:=Zbj _ _
theorem Zqw {n m:Nat} {p:Nat→Bool} (hm:m<n) (h:∀ k,k<n→(p k=true↔k=m)):(List.range n).filter p=[m]:=by
 have e:(List.range n).filter p=(List.range n).filter (fun k=>decide (k=m)):=List.filter_congr (fun k hk=>by
  rw[Bool.eq_iff_iff,h k (List.mem_range.1 hk),decide_eq_true_eq])
 rw[e]
 clear e h
 induction n with
 | zero=>omega
 | succ n ih =>
  rw[List.range_succ,List.filter_append]
  by_cases hmn:m<n
  ·rw[ih hmn]
   have:decide (n=m)=false:=decide_eq_false (by omega)
   simp[this]
  ·obtain rfl:m=n:=by omega
   have:(List.range m).filter (fun k=>decide (k=m))=[]:=by
    rw[List.filter_eq_nil_iff]
    intro k hk
    have:=List.mem_range.1 hk
    simp;omega
   rw[this];simp
structure OpnsP (c:Crw) (un v m:Nat) (ok:Bool) (al:List Int) (bef aft:List (List Int)):Prop where
 lb:bef.length=un
 la:aft.length=un
 rb:∀ r∈bef,r.length≤65
 ra:∀ r∈aft,r.length≤65
 sub:∀ (i:Nat) (ra rb:List Int),aft[i]?=some ra→bef[i]?=some rb→Zk4 ra rb=true
 nil:ok=false→∀ (i:Nat) (ra:List Int),aft[i]?=some ra→ra=[]
 one:ok=true→aft[v]?=some [((m:Nat):Int)]
 fits:ok=true→Zio (Zgn c v (m:Int)) al=true
theorem Zw3 {c:Crw} (hv:Zam c=true) (hn:c.us.length≤1000) (h65:c.ms.length≤65) {v m:Nat} (hu:v<c.us.length) (hm:m<c.ms.length) (hh:(c.us.getD v ⟨0,0,0,0⟩).h = -1):OpnsP c c.us.length v m (okH c (v:Int) (m:Int)) (alH c (v:Int) (m:Int)) (Zb2 c) (Zb2 (Zgn c v (m:Int))):=by
 have hok:=Zar hv hn
 have hv2:=Zjy (m:=(m:Int)) hv hu (by omega) (by exact hm)
 have hok2:=Zzw (m:=(m:Int)) hv hn hu (by omega) (by exact hm)
 have hl:=Zk2 c v (m:Int)
 have hleg:=Zub (m:=(m:Int)) hok hu hh (by omega) (by exact hm)
 have hmt:((m:Nat):Int).toNat=m:=rfl
 rw[hmt] at hleg
 have hfx:Zgm c (v:Int) (m:Int)=true:=Zyw hv (by omega) (by exact hu) (by omega) (by exact hm)
 have hoke:okH c (v:Int) (m:Int)=true↔∃ a,Legal (Zat c (Zau c)) a∧a v=m:=by
  unfold okH
  rw[hfx,Bool.true_and,Zj5]
  constructor
  ·rintro⟨a,ha⟩;exact⟨a,(Zdb hok hu hm a).1 ha⟩
  ·rintro⟨a,ha⟩;exact⟨a,(Zdb hok hu hm a).2 ha⟩
 refine⟨Zpg hv,by rw[Zpg hv2,hl],fun r hr=>?_,fun r hr=>?_,fun i ra rb h1 h2=>?_,fun h i ra h1=>?_,fun h=>?_,fun h=>?_⟩
 ·obtain⟨i,hi,rfl⟩:=List.mem_iff_getElem.1 hr
  obtain⟨-,e⟩:=Zh6 hv (List.getElem?_eq_getElem hi)
  rw[e,List.length_map]
  exact Nat.le_trans (Zph _ _ _) h65
 ·obtain⟨i,hi,rfl⟩:=List.mem_iff_getElem.1 hr
  obtain⟨-,e⟩:=Zh6 hv2 (List.getElem?_eq_getElem hi)
  rw[e,List.length_map]
  exact Nat.le_trans (Zph _ _ _) h65
 ·obtain⟨g1,rfl⟩:=Zh6 hv2 h1
  obtain⟨g2,rfl⟩:=Zh6 hv h2
  rw[Zuc]
  intro x hx
  obtain⟨hx1,a,ha,hax⟩:=(Zn0 hok2 g1).1 hx
  exact (Zn0 hok g2).2 ⟨hx1,a,((hleg a).1 ha).1,hax⟩
 ·obtain⟨g1,rfl⟩:=Zh6 hv2 h1
  have:Zfi (Zgn c v (m:Int)) (Zau (Zgn c v (m:Int))) i=[]:=by
   rw[List.eq_nil_iff_forall_not_mem]
   intro x hx
   obtain⟨hx1,a,ha,hax⟩:=(Zn0 hok2 g1).1 hx
   have:=hoke.2 ⟨a,(hleg a).1 ha⟩
   rw[h] at this;cases this
  rw[this];rfl
 ·rw[Zw2 hv2 (by rw[hl];exact hu)]
  obtain⟨a,ha,hav⟩:=hoke.1 h
  have:Zfi (Zgn c v (m:Int)) (Zau (Zgn c v (m:Int))) v=[m]:=Zqw hm (fun k hk=>by
   rw[Zf7 hok2 (by rw[hl];exact hu) hk]
   constructor
   ·rintro⟨b,hb,hbk⟩
    rw[← hbk];exact ((hleg b).1 hb).2
   ·rintro rfl
    exact⟨a,(hleg a).2 ⟨ha,hav⟩,hav⟩)
  rw[this];rfl
 ·obtain⟨h1,h2,h3⟩:=Znx hn h
  obtain⟨g1,g2,g3⟩:=(Zkw hv hok).1 h2
  refine (Zkw hv2 hok2).2 ⟨by rw[hl];exact g1,fun i hi=>g2 i (by rw[hl] at hi;exact hi),(hleg _).2 ⟨g3,?_⟩⟩
  show ((alH c (v:Int) (m:Int)).getD v 0).toNat=m
  have h3:(alH c (v:Int) (m:Int))[v]?=some (m:Int):=h3
  rw[List.getD_eq_getElem?_getD,h3];rfl
theorem Zmy (w:World) (c:Crw) (cs:List Value) (B:Nat) (ha:ArgC w c cs B) :
  Calls Tryz.prog 24 #[.agg cs.toArray] w fun e w'=>Below w.heap.size w w'∧∃ o cap,e = .returned (.slice o (Zb2 c).length cap)∧Zfj w' (Zb2 c) o:=by
 refine (Zkq w c cs B ha).mono ?_
 intro e w' h
 unfold Zs9 at h
 obtain⟨⟨o,cap,h1,h2⟩,hb⟩:=h
 exact⟨hb,o,cap,h1,h2⟩
theorem Zxm (t:Array Value) (h:t.size=143):∃ f:Nat→Value,t=#[f 0,f 1,f 2,f 3,f 4,f 5,f 6,f 7,f 8,f 9,f 10,f 11,f 12,f 13,f 14,f 15,f 16,f 17,f 18,f 19,f 20,f 21,f 22,f 23,f 24,f 25,f 26,f 27,f 28,f 29,f 30,f 31,f 32,f 33,f 34,f 35,f 36,f 37,f 38,f 39,f 40,f 41,f 42,f 43,f 44,f 45,f 46,f 47,f 48,f 49,f 50,f 51,f 52,f 53,f 54,f 55,f 56,f 57,f 58,f 59,f 60,f 61,f 62,f 63,f 64,f 65,f 66,f 67,f 68,f 69,f 70,f 71,f 72,f 73,f 74,f 75,f 76,f 77,f 78,f 79,f 80,f 81,f 82,f 83,f 84,f 85,f 86,f 87,f 88,f 89,f 90,f 91,f 92,f 93,f 94,f 95,f 96,f 97,f 98,f 99,f 100,f 101,f 102,f 103,f 104,f 105,f 106,f 107,f 108,f 109,f 110,f 111,f 112,f 113,f 114,f 115,f 116,f 117,f 118,f 119,f 120,f 121,f 122,f 123,f 124,f 125,f 126,f 127,f 128,f 129,f 130,f 131,f 132,f 133,f 134,f 135,f 136,f 137,f 138,f 139,f 140,f 141,f 142]:=by
 obtain⟨l⟩:=t
 have hl:l.length=143:=h
 have e:l=(List.range 143).map (fun i=>l.getD i undef):=by
  apply List.ext_getElem
  ·simp[hl]
  ·intro i h1 h2
   simp[List.getD,h1]
 exact⟨fun i=>l.getD i undef,congrArg List.toArray e⟩
theorem Zjz (i:Nat) (h:i<22):i=0∨i=1∨i=2∨i=3∨i=4∨i=5∨i=6∨i=7∨i=8∨i=9∨i=10∨i=11∨i=12∨i=13∨i=14∨i=15∨i=16∨i=17∨i=18∨i=19∨i=20∨i=21:=by omega
def opT (ga oa gb ob un ac bc ix rn rc sn sc:Nat) (ro so:Option Addr) (i:Nat) (W:World) (v:Value):Prop:=match i with
 | 0=>v = .slice (some ⟨ga,oa,none⟩) un ac
 | 1=>v = .int .i64 (ix:Nat)
 | 2=>v = .pointer (some ⟨ga,oa+ix,none⟩)
 | 3=>v = .slice ro rn rc
 | 4=>v = .slice (some ⟨gb,ob,none⟩) un bc
 | 5=>v = .int .i64 (ix:Nat)
 | 6=>v = .pointer (some ⟨gb,ob+ix,none⟩)
 | 7=>v = .slice so sn sc
 | 8=>v = .bool true
 | 9=>v = .bool false
 | 10=>v = .bool false
 | 11=>v = .bool true
 | 12=>v = .bool false
 | 13=>v = .bool false
 | 14=>v=undef
 | 15=>v=undef
 | 16=>v=undef
 | 17=>v=undef
 | 18=>v=undef
 | 19=>v=undef
 | 20=>v = .bool false
 | 21=>v = .bool false
 | _=>True
theorem Zw4 (ga oa gb ob un ac bc ix rn rc sn sc:Nat) (ro so:Option Addr):∀ i w w' v,opT ga oa gb ob un ac bc ix rn rc sn sc ro so i w v→Below w.heap.size w w'→opT ga oa gb ob un ac bc ix rn rc sn sc ro so i w' v:=by
 intro i w w' v h hb
 match i with
 | 0=>exact h
 | 1=>exact h
 | 2=>exact h
 | 3=>exact h
 | 4=>exact h
 | 5=>exact h
 | 6=>exact h
 | 7=>exact h
 | 8=>exact h
 | 9=>exact h
 | 10=>exact h
 | 11=>exact h
 | 12=>exact h
 | 13=>exact h
 | 14=>exact h
 | 15=>exact h
 | 16=>exact h
 | 17=>exact h
 | 18=>exact h
 | 19=>exact h
 | 20=>exact h
 | 21=>exact h
 | k+22=>trivial
def opN (ga oa gb ob un ac bc ix rn rc sn sc:Nat) (ro so:Option Addr) (i:Nat) (W:World) (v:Value):Prop:=match i with
 | 0=>v = .slice (some ⟨ga,oa,none⟩) un ac
 | 1=>v = .int .i64 (ix:Nat)
 | 2=>v = .pointer (some ⟨ga,oa+ix,none⟩)
 | 3=>v = .slice ro rn rc
 | 4=>v = .slice (some ⟨gb,ob,none⟩) un bc
 | 5=>v = .int .i64 (ix:Nat)
 | 6=>v = .pointer (some ⟨gb,ob+ix,none⟩)
 | 7=>v = .slice so sn sc
 | 8=>v = .bool true
 | 9=>v = .bool false
 | 10=>v = .bool false
 | 11=>v = .bool false
 | 12=>v = .bool true
 | 13=>v = .bool true
 | 14=>v = .slice (some ⟨ga,oa,none⟩) un ac
 | 15=>v = .int .i64 (ix:Nat)
 | 16=>v = .pointer (some ⟨ga,oa+ix,none⟩)
 | 17=>v = .slice ro rn rc
 | 18=>v = .int .i64 (rn:Nat)
 | 19=>v = .bool false
 | 20=>v = .bool false
 | 21=>v = .bool false
 | _=>True
theorem Zw5 (ga oa gb ob un ac bc ix rn rc sn sc:Nat) (ro so:Option Addr):∀ i w w' v,opN ga oa gb ob un ac bc ix rn rc sn sc ro so i w v→Below w.heap.size w w'→opN ga oa gb ob un ac bc ix rn rc sn sc ro so i w' v:=by
 intro i w w' v h hb
 match i with
 | 0=>exact h
 | 1=>exact h
 | 2=>exact h
 | 3=>exact h
 | 4=>exact h
 | 5=>exact h
 | 6=>exact h
 | 7=>exact h
 | 8=>exact h
 | 9=>exact h
 | 10=>exact h
 | 11=>exact h
 | 12=>exact h
 | 13=>exact h
 | 14=>exact h
 | 15=>exact h
 | 16=>exact h
 | 17=>exact h
 | 18=>exact h
 | 19=>exact h
 | 20=>exact h
 | 21=>exact h
 | k+22=>trivial
theorem Zqx (w:World) (c:Crw) (cs:List Value) (B:Nat) (u who:Int) (hw0:0≤who) (hw1:who≤255) (hcw:Zgj w c cs) (hG:Tab w B) (hL:LenC c) (hby:∀ p∈c.qs,ByL p) (hnm:∀ m∈c.ms,∀ b∈m.b,NmL b.n) :
  Calls Tryz.prog 13 #[.agg cs.toArray,.int .i64 u,.int .u8 who] w fun e w'=>e = .returned (.bool true)∧Below w.heap.size w w':=by
 have HVC:=ħ (fun W (hc:Zgj W c cs) (hT:Tab W B) (hok:CrwOk c)=>Zjp W c cs hc B hT hok)
 have HTB:=ħ (fun W (hW:Below w.heap.size w W)=>Zbi.step (w:=w) hG hW)
 have HCW:=ħ (fun W (hW:Below w.heap.size w W)=>hcw.below hW)
 have HFK:=ħ (fun hf=>Zyv (c:=c) hf hL hby hnm)
 have HFW:=ħ (fun W (hW:Below w.heap.size w W)=>Zwy W c cs (hcw.below hW) hL)
 have hun:=hL.nu
 have hmn:=hL.nm
 have hqn:=hL.nq
 obtain⟨qo,qc,mo,mc,uo,uc,rfl,-⟩:=hcw
 clear hL hby hnm hG
 generalize hqe:c.qs.length=qn at *
 generalize hme:c.ms.length=mn at *
 generalize hue:c.us.length=un at *
 have HUE:=ħ hue
 have HME:=ħ hme
 have HQE:=ħ hqe
 clear hue hme hqe
 have X1:Hid (Zaf (w.alloc (.cells #[.slice qo qn qc,.slice mo mn mc,.slice uo un uc] 26)) w.heap.size 26 [.slice qo qn qc,.slice mo mn mc,.slice uo un uc]):=ħ (heap_alloc_new w _)
 have B1:=ħ ((Below.refl w.heap.size w).alloc (Nat.le_refl _) (.cells #[.slice qo qn qc,.slice mo mn mc,.slice uo un uc] 26))
 go_enter Tryz.func13,Tryz.ntmps13
 go_upto_region 1 with (fail)
 generalize w.alloc (.cells #[.slice qo qn qc,.slice mo mn mc,.slice uo un uc] 26)=w1 at *
 go_wp2_with fail
 refine (Zt2 w1 B (HTB.o w1 B1.o)).mono ?_
 rintro e w2 ⟨rfl,b2⟩
 have X2:=ħ (X1.o.step b2)
 have B2:=ħ (B1.o.trans (b2.mono B1.o.size))
 clear b2 X1 B1
 go_upto_region 2 with (fail)
 go_wp2_with (refine wpList_load_row rfl 26 (.tmp 3) rfl (w.heap.size) ?x1 26 #[.slice qo qn qc,.slice mo mn mc,.slice uo un uc] (0,0) _ X2.o Tryz.underlying26 rfl (Zbp _ _ _) ?_;(case x1=>rfl))
 refine (HFW.o w2 B2.o).mono ?_
 rintro e w3 ⟨rfl,b3⟩
 have X3:=ħ (X2.o.step b3)
 have B3:=ħ (B2.o.trans (b3.mono B2.o.size))
 clear b3 X2 B2 HFW
 obtain⟨V,hV⟩:∃ V,Zzu c=V:=⟨_,rfl⟩
 rw[hV]
 have HV:=ħ hV
 clear hV
 cases V with
 | false =>
  go_wp2_with fail
  go_ret
  exact⟨rfl,B3.o⟩
 | true =>
  obtain⟨hok,h999,h65,h129⟩:=HFK.o HV.o
  have HOK:=ħ hok
  clear hok
  have HAG:=ħ (fun W (hW:Below w.heap.size w W)=>(⟨HCW.o W hW,HTB.o W hW,HOK.o,by rw[HUE.o];exact h999⟩:ArgC W c [.slice qo qn qc,.slice mo mn mc,.slice uo un uc] B))
  clear HFK HTB HCW HOK
  have HVC:=ħ (fun W (hW:Below w.heap.size w W)=>HVC.o W (HAG.o W hW).crw (HAG.o W hW).tab (HAG.o W hW).ok)
  go_wp2_with (refine Zbd (by rfl) 26 (.tmp 3) rfl (w.heap.size) ?x2 26 #[.slice qo qn qc,.slice mo mn mc,.slice uo un uc] (0,0) _ X3.o Tryz.underlying26 rfl (Zbp _ _ _) ?_;(case x2=>rfl))
  refine (HVC.o w3 B3.o).mono ?_
  rintro e w4 ⟨rfl,b4⟩
  have X4:=ħ (X3.o.step b4)
  have B4:=ħ (B3.o.trans (b4.mono B3.o.size))
  clear b4 X3 B3 HVC
  obtain⟨vv,hvv⟩:∃ x,Zam c=x:=⟨_,rfl⟩
  rw[hvv]
  cases vv with
  | false =>
   go_wp2_with fail
   go_ret
   exact⟨rfl,B4.o⟩
  | true =>
  have HVV:=ħ hvv
  clear hvv
  have c2:=X4.o.cell 2 _ rfl
  have c1:=X4.o.cell 1 _ rfl
  by_cases h2:u<0
  ·go_wp2_with fail
   go_ret
   exact⟨rfl,B4.o⟩
  by_cases h3:u≥(un:Int)
  ·go_wp2_with fail
   go_ret
   exact⟨rfl,B4.o⟩
  by_cases h4:mn=0
  ·have h4i:(((mn:Nat):Int)==0)=true:=by simpa using h4
   go_wp2_with fail
   go_ret
   exact⟨rfl,B4.o⟩
  have h4i:(((mn:Nat):Int)==0)=false:=by simpa using h4
  obtain⟨v,rfl⟩:∃ v:Nat,u=(v:Int):=⟨u.toNat,by omega⟩
  obtain⟨y,rfl⟩:∃ y:Nat,who=(y:Int):=⟨who.toNat,by omega⟩
  have hvu:v<un:=by omega
  have h4j:¬ ((mn:Nat):Int)=0:=by omega
  have HUF:=ħ (fun W (hW:Below w.heap.size w W)=>(Zzv (HAG.o W hW).crw).1)
  obtain⟨x,hx⟩:∃ x,c.us[v]?=some x:=⟨_,List.getElem?_eq_getElem (by rw[HUE.o];exact hvu)⟩
  have HXX:=ħ hx
  obtain⟨m,hme⟩:∃ m:Nat,y%mn=m:=⟨_,rfl⟩
  have hm:m<mn:=by rw[← hme];exact Nat.mod_lt _ (by omega)
  have hmi:((y:Int)%((mn:Nat):Int))=((m:Nat):Int):=by rw[← hme];rfl
  have hmi2:Int.tmod (y:Int) ((mn:Nat):Int)=((m:Nat):Int):=by rw[← hme];rfl
  have ecv:IntKind.i64.wrap ((y:Nat):Int)=((y:Nat):Int):=IntWalk.i64_in _ (by omega)
  have ecm:IntKind.i64.wrap ((m:Nat):Int)=((m:Nat):Int):=IntWalk.i64_in _ (by omega)
  obtain⟨gu,ou,huo,hgu,hcu⟩:=(HUF.o w4 B4.o).at Zap v x hx
  have u3:=hcu 3 _ rfl
  have HUO:=ħ huo
  rw[huo] at c2
  clear hcu hgu hx huo hme
  by_cases hh:x.h = -1
  ·rw[hh] at u3
   have HHH:Hid ((c.us.getD v ⟨0,0,0,0⟩).h = -1):=ħ (by rw[List.getD_eq_getElem?_getD,HXX.o];exact hh)
   have HP0:Hid (OpnsP c un v m (okH c (v:Int) (m:Int)) (alH c (v:Int) (m:Int)) (Zb2 c) (Zb2 (Zgn c v (m:Int)))):=ħ (by
    have:=Zw3 (c:=c) HVV.o (by rw[HUE.o];omega) (by rw[HME.o];exact h65) (v:=v) (m:=m) (by rw[HUE.o];exact hvu) (by rw[HME.o];exact hm) HHH.o
    rwa [HUE.o] at this)
   have HSE:=ħ (fun W (hW:Below w.heap.size w W)=>Zmy W c _ B (HAG.o W hW))
   have HWI:=ħ (fun W (hW:Below w.heap.size w W)=>Zw0 W c _ B (v:Int) (m:Int) (HAG.o W hW))
   have HS2:=ħ (fun W cs' (ha:ArgC W (Zgn c v (m:Int)) cs' B)=>Zmy W _ cs' B ha)
   have HFT:=ħ (fun W cs' lo lc (ha:ArgC W (Zgn c v (m:Int)) cs' B) (hl:Zak Zbf W lo (alH c (v:Int) (m:Int)))=>Zwa W _ cs' B (alH c (v:Int) (m:Int)) lo lc ha hl)
   have HOC:Hid (Zgn c v (m:Int)=Zqt c (c.us.set v (Zq7 x (m:Int)))):=ħ (by unfold Zgn;rw[List.getD_eq_getElem?_getD,HXX.o,Option.getD_some])
   have HLA:Hid (okH c (v:Int) (m:Int)=true→(alH c (v:Int) (m:Int)).length=un):=ħ (fun h=>by rw[(Znx (by rw[HUE.o];omega) h).1,HUE.o])
   rw[HUE.o] at HWI
   rw[HP0.o.lb] at HSE
   rw[HP0.o.la] at HS2
   obtain⟨bef,hbf⟩:∃ l,Zb2 c=l:=⟨_,rfl⟩
   obtain⟨aft,haf⟩:∃ l,Zb2 (Zgn c v (m:Int))=l:=⟨_,rfl⟩
   obtain⟨al,hal⟩:∃ l,alH c (v:Int) (m:Int)=l:=⟨_,rfl⟩
   obtain⟨ok,hok⟩:∃ b,okH c (v:Int) (m:Int)=b:=⟨_,rfl⟩
   rw[hbf,haf,hal,hok] at HP0
   rw[hbf] at HSE
   rw[haf] at HS2
   rw[hal] at HFT HLA HWI
   rw[hok] at HLA HWI
   clear hbf haf hal hok hh
   go_upto_region 7 with (fail)
   clear c1 c2 u3
   go_wp2_with (refine wpList_load_row rfl 26 (.tmp 3) rfl (w.heap.size) ?l1 26 #[.slice qo qn qc,.slice mo mn mc,.slice uo un uc] (0,0) _ X4.o Tryz.underlying26 rfl (Zbp _ _ _) ?_;(case l1=>rfl))
   refine (HSE.o w4 B4.o).mono ?_
   rintro e w5 ⟨b5,o5,cB,rfl,hr5⟩
   have X5:=ħ (X4.o.step b5)
   have B5:=ħ (B4.o.trans (b5.mono B4.o.size))
   have HR5:=ħ (fun W (hW:Below w5.heap.size w5 W)=>hr5.below hW)
   clear b5 X4 B4 HSE hr5
   go_upto_region 8 with (fail)
   go_wp2_with (refine wpList_load_row rfl 26 (.tmp 3) rfl (w.heap.size) ?l2 26 #[.slice qo qn qc,.slice mo mn mc,.slice uo un uc] (0,0) _ X5.o Tryz.underlying26 rfl (Zbp _ _ _) ?_;(case l2=>rfl))
   refine (HWI.o w5 B5.o).mono ?_
   rintro e w6 ⟨b6,hr6⟩
   have X6:=ħ (X5.o.step b6)
   have B6:=ħ (B5.o.trans (b6.mono B5.o.size))
   have HR6:=ħ (fun W (hW:Below w6.heap.size w6 W)=>HR5.o W (b6.trans (hW.mono b6.size)))
   clear b6 X5 B5 HWI HR5
   cases ok with
   | true =>
    rw[if_pos rfl] at hr6
    obtain⟨ao,ac,rfl,hfa⟩:=hr6
    have HFA:=ħ (fun W (hW:Below w6.heap.size w6 W)=>hfa.below hW)
    have hal:=HLA.o (by trivial)
    rw[hal] at HFT
    clear hfa hal HLA
    have L6:=ħ (Below.refl w6.heap.size w6)
    have O1:Hid (Zaf (w6.alloc (.cells #[.slice none 0 0,.slice none 0 0,.slice none 0 0] 26)) w6.heap.size 26 [.slice none 0 0,.slice none 0 0,.slice none 0 0]):=ħ (heap_alloc_new w6 _)
    have BO:=ħ ((Below.refl w6.heap.size w6).alloc (Nat.le_refl _) (.cells #[.slice none 0 0,.slice none 0 0,.slice none 0 0] 26))
    go_upto_region 10 with (first | (refine wpList_load_row rfl 26 (.tmp 3) rfl (w.heap.size) ?xl9 26 #[.slice qo qn qc,.slice mo mn mc,.slice uo un uc] (0,0) _ X6.o Tryz.underlying26 rfl (Zbp _ _ _) ?_;(case xl9=>rfl)) | (refine Zaw rfl 26 (.tmp 12) (.tmp 65) rfl w6.heap.size #[.slice qo qn qc,.slice mo mn mc,.slice uo un uc] (by rfl) (by rfl) 26 _ O1.o (Zbp _ _ _) rfl (by simp[Value.oneCell']) ?_;intro w9 s9 u9;have S9:=ħ s9;have U9:=ħ u9;clear s9 u9))
    have A9:=ħ (U9.o.below BO.o (Nat.le_refl _))
    have S9:Hid (Zaf w9 w6.heap.size 26 [.slice qo qn qc,.slice mo mn mc,.slice uo un uc]):=ħ S9.o
    have X9:=ħ (X6.o.step A9.o)
    have L9:=ħ (L6.o.trans (A9.o.mono L6.o.size))
    have Z9:Hid (w6.heap.size<w9.heap.size):=ħ S9.o.lt
    clear O1 BO U9
    have B9:=ħ (B6.o.trans (L9.o.mono B6.o.size))
    have BE:=ħ ((Below.refl w9.heap.size w9).alloc (Nat.le_refl _) (.cells #[] 39))
    have XE:=ħ (X9.o.step BE.o)
    have SE:=ħ (S9.o.step BE.o)
    have c2:=XE.o.cell 2 _ rfl
    have OE:=ħ (OwnK.made w9 39 4)
    have FE:=ħ (HUF.o _ (B9.o.trans (BE.o.mono B9.o.size)))
    have KE:=BE.o.size
    go_upto_region 11 with (at_builtin;refine Zxl Zbv 24 39 (.agg #[.int .i64 0,.int .i64 0,.int .i64 0,.int .i64 0]) 4 32 Tryz.underlying24 Zei rfl (by omega) (by omega) Zap Zpe (w9.alloc (.cells #[] 39)) w9.heap.size rfl (.tmp 66) (.tmp 68) rfl ⟨w9.heap.size,0,none⟩ 0 ?q1 OE.o KE uo un uc c.us ?q2 HUE.o.symm FE.o (by omega) ?_;(case q1=>rfl);(case q2=>rfl);intro g5 off5 c5 wq o8 b8;have O8:=ħ o8;have S8:=ħ (SE.o.below b8 Z9.o);have c8:=S8.o.cell 2 _ rfl;have f8:=S8.o.warm 2;have B8:=ħ b8;clear o8 b8)
    have SZ:Hid (Zaf (wq.setCell ⟨w6.heap.size,2,none⟩ (.slice (some ⟨g5,off5,none⟩) un c5)) (w6.heap.size) 26 [.slice qo qn qc,.slice mo mn mc,.slice (some ⟨g5,off5,none⟩) un c5]):=ħ (S8.o.set 2 _)
    have HG5:Hid (w9.heap.size≤g5):=ħ (O8.o.blk_lt rfl).1
    have OZ:=ħ (O8.o.setCell (p:=⟨w6.heap.size,2,none⟩) (.slice (some ⟨g5,off5,none⟩) un c5) (fun e=>by
     have e:g5=w6.heap.size:=Option.some.inj e
     have:=HG5.o
     have:=Z9.o
     omega))
    have AZ:=ħ (((A9.o.trans ((BE.o.trans B8.o).mono A9.o.size))).setCell (p:=⟨w6.heap.size,2,none⟩) (Nat.le_refl _) (.slice (some ⟨g5,off5,none⟩) un c5))
    clear S8 O8 B8 c8 f8 OE SE XE FE BE KE c2 S9 X9 B9 L9 A9
    generalize wq.setCell ⟨w6.heap.size,2,none⟩ (.slice (some ⟨g5,off5,none⟩) un c5)=wz at *
    have BZ:=ħ (B6.o.trans (AZ.o.mono B6.o.size))
    have XZ:=ħ (X6.o.step AZ.o)
    have ZX:Hid (w6.heap.size<g5):=ħ (Nat.lt_of_lt_of_le Z9.o HG5.o)
    obtain⟨OY,f3,-⟩:=OZ.o.setUse HXX.o (m:Int)
    obtain⟨g6,o6,hp6,hg6,hr6⟩:=(OZ.o.flatR Zap HUE.o.symm).at Zap v x HXX.o
    obtain⟨rfl,rfl⟩:g5=g6∧off5=o6:=by simpa using hp6
    have z3:=hr6 3 _ rfl
    have z0:=SZ.o.cell 2 _ rfl
    have OY:=ħ OY
    have SY:=ħ (SZ.o.off (p:=⟨g5,off5+v*4+3,none⟩) (fun e=>by have e:w6.heap.size=g5:=e;have:=ZX.o;omega) (.int .i64 (m:Int)))
    have AY:=ħ (AZ.o.setCell (p:=⟨g5,off5+v*4+3,none⟩) (by show w6.heap.size≤g5;have:=ZX.o;omega) (.int .i64 (m:Int)))
    clear hr6 hp6 Z9 hg6
    go_upto_region 12 with (fail)
    clear z3 z0 f3 OZ SZ AZ XZ BZ
    generalize wz.setCell ⟨g5,off5+v*4+3,none⟩ (.int .i64 (m:Int))=wy at *
    have BY:=ħ (B6.o.trans (AY.o.mono B6.o.size))
    have XY:=ħ (X6.o.step AY.o)
    have HA2:=ħ (fun W (hW:Below wy.heap.size wy W)=>(by
     rw[HOC.o]
     exact Zmx (HAG.o W (BY.o.trans (hW.mono BY.o.size))) ((OY.o.below hW).flatR Zap (by rw[List.length_set];exact HUE.o.symm)) (by rw[List.length_set];exact HUE.o.symm) OY.o.len_le.1 (by rw[List.length_set,HUE.o];exact h999):ArgC W (Zgn c v (m:Int)) [.slice qo qn qc,.slice mo mn mc,.slice (some ⟨g5,off5,none⟩) un c5] B))
    have HRY:=ħ (fun W (hW:Below wy.heap.size wy W)=>HR6.o W (AY.o.trans (hW.mono AY.o.size)))
    have HFY:=ħ (fun W (hW:Below wy.heap.size wy W)=>HFA.o W (AY.o.trans (hW.mono AY.o.size)))
    obtain⟨sb,hsb⟩:∃ n,w6.heap.size=n:=⟨_,rfl⟩
    rw[hsb] at SY ⊢
    clear AY X6 B6 L6 HR6 OY ZX HG5 hsb HFA
    go_wp2_with (refine wpList_load_row rfl 26 (.tmp 12) rfl (sb) ?l3 26 #[.slice qo qn qc,.slice mo mn mc,.slice (some ⟨g5,off5,none⟩) un c5] (0,0) _ SY.o Tryz.underlying26 rfl (Zbp _ _ _) ?_;(case l3=>rfl))
    refine (HS2.o wy _ (HA2.o wy (Below.refl _ _))).mono ?_
    rintro e wt ⟨bt,ot,ct,rfl,hrt⟩
    have LT:=ħ bt
    have XT:=ħ (XY.o.step bt)
    have ST:=ħ (SY.o.step bt)
    have BT:=ħ (BY.o.trans (bt.mono BY.o.size))
    have HRT:=ħ (fun W (hW:Below wt.heap.size wt W)=>hrt.below hW)
    have HRB:=ħ (fun W (hW:Below wt.heap.size wt W)=>HRY.o W (bt.trans (hW.mono bt.size)))
    have c2:=XT.o.cell 2 _ rfl
    clear bt hrt XY SY BY HRY
    go_upto_region 13 with (fail)
    have hun0:(((un:Nat):Int) != ((un:Nat):Int))=false:=by simp
    go_wp2_with (refine Zbd (by rfl) 26 (.tmp 12) rfl (sb) ?l4 26 #[.slice qo qn qc,.slice mo mn mc,.slice (some ⟨g5,off5,none⟩) un c5] (0,0) _ ST.o Tryz.underlying26 rfl (Zbp _ _ _) ?_;(case l4=>rfl))
    refine (HFT.o wt _ ao ac (HA2.o wt LT.o) (HFY.o wt LT.o)).mono ?_
    rintro e wl ⟨rfl,bl⟩
    rw[HP0.o.fits (by trivial)]
    have BL:=ħ (BT.o.trans (bl.mono BT.o.size))
    have HRA:=ħ (fun W (hW:Below wl.heap.size wl W)=>HRT.o W (bl.trans (hW.mono bl.size)))
    have HRB2:=ħ (fun W (hW:Below wl.heap.size wl W)=>HRB.o W (bl.trans (hW.mono bl.size)))
    clear bl ST XT BT LT HRT HRB HFY HA2 c2
    go_upto_region 16 with (fail)
    clear hun0
    go_wp2_with fail
    go_loopw [14] (fun iv wr=>∃ (ix:Nat),iv = .int .i64 ix∧ix≤un∧Hid (Below wl.heap.size wl wr)) (fun i _=>(un-intOf i).toNat)
    case atStart=>exact⟨0,rfl,by omega,ħ (Below.refl _ _)⟩
    case round =>
     obtain⟨ix,rfl,hi,LR⟩:=hrel
     have e2:IntKind.i64.wrap ((ix:Int)+1)=((ix+1:Nat):Int):=IntWalk.i64_in _ (by omega)
     by_cases hin:ix<un
     ·have ii:(ix:Int)<un:=by omega
      obtain⟨ra,hra⟩:∃ r,aft[ix]?=some r:=⟨_,List.getElem?_eq_getElem (by rw[HP0.o.la];exact hin)⟩
      obtain⟨rb,hrb⟩:∃ r,bef[ix]?=some r:=⟨_,List.getElem?_eq_getElem (by rw[HP0.o.lb];exact hin)⟩
      obtain⟨ga,oa,ro,rc,hao,hga,hca,hfa⟩:=(HRA.o wr LR.o).at ix ra hra
      obtain⟨gb,ob,so,sc,hbo,hgb,hcb,hfb⟩:=(HRB2.o wr LR.o).at ix rb hrb
      have h65a:=HP0.o.ra ra (List.mem_of_getElem? hra)
      have h65b:=HP0.o.rb rb (List.mem_of_getElem? hrb)
      have HSU:=ħ (HP0.o.sub ix ra rb hra hrb)
      have HCA:=ħ (fun W (hW:Below wr.heap.size wr W)=>(hW.cell (p:=⟨ga,oa+ix,none⟩) hga).trans hca)
      have HCB:=ħ (fun W (hW:Below wr.heap.size wr W)=>(hW.cell (p:=⟨gb,ob+ix,none⟩) hgb).trans hcb)
      have HSB:=ħ (fun W (hW:Below wr.heap.size wr W)=>Zpf W ra rb ro so rc sc (hfa.below hW) (hfb.below hW) (by omega) (by omega))
      rw[HSU.o] at HSB
      have HII:=ħ ii
      have HAO:=ħ hao
      have HBO:=ħ hbo
      subst hao
      subst hbo
      clear hra hrb hca hcb hfa hfb hga hgb h65a h65b ii
      generalize ra.length=rn at *
      generalize rb.length=sn at *
      go_upto_region 18 with (fail)
      refine Zaz (opT ga oa gb ob un ct cB ix rn rc sn sc ro so) (by kernel_rfl) (Zw4 ga oa gb ob un ct cB ix rn rc sn sc ro so) (Zca (by kernel_rfl)) (Ze8 (by kernel_rfl)) (Zbc (by kernel_rfl)) ?hs ?he
      case hs =>
       intro i o hi listed a' w' H hl2
       have hl3:=Zas hl2
       have hin:i<22:=(Array.getElem?_eq_some_iff.1 hi).1
       have hb:=ħ H.below
       have s9:=H.same 9 (Zan (by kernel_rfl))
       have s11:=H.same 11 (Zan (by kernel_rfl))
       have s13:=H.same 13 (Zan (by kernel_rfl))
       have s14:=H.same 14 (Zan (by kernel_rfl))
       have hdn:=H.done
       have hdf:=H.defers
       have hts:=H.tsize
       clear hl2 H
       obtain⟨t',df⟩:=a'
       obtain⟨f',rfl⟩:=Zxm t' hts
       have hdf':df=[]:=hdf
       subst hdf'
       have gs9:f' 9 = .slice (some ⟨gb,ob,none⟩) un cB:=s9
       have gs11:f' 11 = .bool true:=s11
       have gs13:f' 13 = .slice (some ⟨ga,oa,none⟩) un ct:=s13
       have gs14:f' 14 = .int .i64 (ix:Nat):=s14
       clear s9 s11 s13 s14
       clear hdf hts
       have hcases:=Zjz i hin
       clear hin
       rcases hcases with rfl | rfl | rfl | rfl | rfl | rfl | rfl | rfl | rfl | rfl | rfl | rfl | rfl | rfl | rfl | rfl | rfl | rfl | rfl | rfl | rfl | rfl
       ·obtain rfl:=Option.some.inj hi
        clear hdn hl3
        rw[gs13]
        clear gs9 gs11 gs13 gs14
        refine Zab rfl ?_
        go_wp2_with fail
        exact Zaa ⟨_,rfl,Below.refl _ _,rfl⟩
       ·obtain rfl:=Option.some.inj hi
        clear hdn hl3
        rw[gs14]
        clear gs9 gs11 gs13 gs14
        refine Zab rfl ?_
        go_wp2_with fail
        exact Zaa ⟨_,rfl,Below.refl _ _,rfl⟩
       ·obtain rfl:=Option.some.inj hi
        have dv0:f' 107 = .slice (some ⟨ga,oa,none⟩) un ct:=hdn 0 _ 107 rfl (hl3 0 (by rfl)) rfl
        have dv1:f' 108 = .int .i64 (ix:Nat):=hdn 1 _ 108 rfl (hl3 1 (by rfl)) rfl
        clear hdn hl3
        rw[dv0,dv1]
        clear dv0 dv1 gs9 gs11 gs13 gs14
        have ii:=HII.o
        refine Zab rfl ?_
        go_wp2_with fail
        exact Zaa ⟨_,rfl,Below.refl _ _,rfl⟩
       ·obtain rfl:=Option.some.inj hi
        have dv2:f' 109 = .pointer (some ⟨ga,oa+ix,none⟩):=hdn 2 _ 109 rfl (hl3 2 (by rfl)) rfl
        clear hdn hl3
        rw[dv2]
        clear dv2 gs9 gs11 gs13 gs14
        have rr:=HCA.o w' hb.o
        refine Zab rfl ?_
        go_wp2_with fail
        exact Zaa ⟨_,rfl,Below.refl _ _,rfl⟩
       ·obtain rfl:=Option.some.inj hi
        clear hdn hl3
        rw[gs9]
        clear gs9 gs11 gs13 gs14
        refine Zab rfl ?_
        go_wp2_with fail
        exact Zaa ⟨_,rfl,Below.refl _ _,rfl⟩
       ·obtain rfl:=Option.some.inj hi
        clear hdn hl3
        rw[gs14]
        clear gs9 gs11 gs13 gs14
        refine Zab rfl ?_
        go_wp2_with fail
        exact Zaa ⟨_,rfl,Below.refl _ _,rfl⟩
       ·obtain rfl:=Option.some.inj hi
        have dv4:f' 111 = .slice (some ⟨gb,ob,none⟩) un cB:=hdn 4 _ 111 rfl (hl3 4 (by rfl)) rfl
        have dv5:f' 112 = .int .i64 (ix:Nat):=hdn 5 _ 112 rfl (hl3 5 (by rfl)) rfl
        clear hdn hl3
        rw[dv4,dv5]
        clear dv4 dv5 gs9 gs11 gs13 gs14
        have ii:=HII.o
        refine Zab rfl ?_
        go_wp2_with fail
        exact Zaa ⟨_,rfl,Below.refl _ _,rfl⟩
       ·obtain rfl:=Option.some.inj hi
        have dv6:f' 113 = .pointer (some ⟨gb,ob+ix,none⟩):=hdn 6 _ 113 rfl (hl3 6 (by rfl)) rfl
        clear hdn hl3
        rw[dv6]
        clear dv6 gs9 gs11 gs13 gs14
        have rr:=HCB.o w' hb.o
        refine Zab rfl ?_
        go_wp2_with fail
        exact Zaa ⟨_,rfl,Below.refl _ _,rfl⟩
       ·obtain rfl:=Option.some.inj hi
        have dv3:f' 110 = .slice ro rn rc:=hdn 3 _ 110 rfl (hl3 3 (by rfl)) rfl
        have dv7:f' 114 = .slice so sn sc:=hdn 7 _ 114 rfl (hl3 7 (by rfl)) rfl
        clear hdn hl3
        rw[dv3,dv7]
        clear dv3 dv7 gs9 gs11 gs13 gs14
        refine Zab rfl ?_
        go_wp2_with fail
        refine (HSB.o w' hb.o).mono ?_
        rintro e w4 ⟨rfl,b4⟩
        have HB4:=ħ b4
        clear b4
        go_wp2_with fail
        exact Zaa ⟨_,rfl,HB4.o,rfl⟩
       ·obtain rfl:=Option.some.inj hi
        have dv8:f' 115 = .bool true:=hdn 8 _ 115 rfl (hl3 8 (by rfl)) rfl
        clear hdn hl3
        rw[dv8]
        clear dv8 gs9 gs11 gs13 gs14
        refine Zab rfl ?_
        go_wp2_with fail
        exact Zaa ⟨_,rfl,Below.refl _ _,rfl⟩
       ·obtain rfl:=Option.some.inj hi
        have dv9:f' 116 = .bool false:=hdn 9 _ 116 rfl (hl3 9 (by rfl)) rfl
        clear hdn hl3
        rw[dv9]
        clear dv9 gs9 gs11 gs13 gs14
        refine Zab rfl ?_
        go_wp2_with fail
        exact Zaa ⟨_,rfl,Below.refl _ _,rfl⟩
       ·obtain rfl:=Option.some.inj hi
        have dv10:f' 117 = .bool false:=hdn 10 _ 117 rfl (hl3 10 (by rfl)) rfl
        clear hdn hl3
        rw[gs11,dv10]
        clear dv10 gs9 gs11 gs13 gs14
        refine Zab rfl ?_
        go_wp2_with fail
        exact Zaa ⟨_,rfl,Below.refl _ _,rfl⟩
       ·obtain rfl:=Option.some.inj hi
        have dv10:f' 117 = .bool false:=hdn 10 _ 117 rfl (hl3 10 (by rfl)) rfl
        have dv11:f' 118 = .bool true:=hdn 11 _ 118 rfl (hl3 11 (by rfl)) rfl
        clear hdn hl3
        rw[dv10,dv11]
        clear dv10 dv11 gs9 gs11 gs13 gs14
        refine Zab rfl ?_
        go_wp2_with fail
        exact Zaa ⟨_,rfl,Below.refl _ _,rfl⟩
       ·obtain rfl:=Option.some.inj hi
        have dv10:f' 117 = .bool false:=hdn 10 _ 117 rfl (hl3 10 (by rfl)) rfl
        have dv12:f' 119 = .bool false:=hdn 12 _ 119 rfl (hl3 12 (by rfl)) rfl
        clear hdn hl3
        rw[dv10,dv12]
        clear dv10 dv12 gs9 gs11 gs13 gs14
        refine Zab rfl ?_
        go_wp2_with fail
        exact Zaa ⟨_,rfl,Below.refl _ _,rfl⟩
       ·obtain rfl:=Option.some.inj hi
        have dv13:f' 120 = .bool false:=hdn 13 _ 120 rfl (hl3 13 (by rfl)) rfl
        clear hdn hl3
        rw[gs13,dv13]
        clear dv13 gs9 gs11 gs13 gs14
        refine Zab rfl ?_
        go_wp2_with fail
        exact Zaa ⟨_,rfl,Below.refl _ _,rfl⟩
       ·obtain rfl:=Option.some.inj hi
        have dv13:f' 120 = .bool false:=hdn 13 _ 120 rfl (hl3 13 (by rfl)) rfl
        clear hdn hl3
        rw[gs14,dv13]
        clear dv13 gs9 gs11 gs13 gs14
        refine Zab rfl ?_
        go_wp2_with fail
        exact Zaa ⟨_,rfl,Below.refl _ _,rfl⟩
       ·obtain rfl:=Option.some.inj hi
        have dv13:f' 120 = .bool false:=hdn 13 _ 120 rfl (hl3 13 (by rfl)) rfl
        have dv14:f' 121=undef:=hdn 14 _ 121 rfl (hl3 14 (by rfl)) rfl
        have dv15:f' 122=undef:=hdn 15 _ 122 rfl (hl3 15 (by rfl)) rfl
        clear hdn hl3
        rw[dv13,dv14,dv15]
        clear dv13 dv14 dv15 gs9 gs11 gs13 gs14
        have ii:=HII.o
        refine Zab rfl ?_
        go_wp2_with fail
        exact Zaa ⟨_,rfl,Below.refl _ _,rfl⟩
       ·obtain rfl:=Option.some.inj hi
        have dv13:f' 120 = .bool false:=hdn 13 _ 120 rfl (hl3 13 (by rfl)) rfl
        have dv16:f' 123=undef:=hdn 16 _ 123 rfl (hl3 16 (by rfl)) rfl
        clear hdn hl3
        rw[dv13,dv16]
        clear dv13 dv16 gs9 gs11 gs13 gs14
        have rr:=HCA.o w' hb.o
        refine Zab rfl ?_
        go_wp2_with fail
        exact Zaa ⟨_,rfl,Below.refl _ _,rfl⟩
       ·obtain rfl:=Option.some.inj hi
        have dv13:f' 120 = .bool false:=hdn 13 _ 120 rfl (hl3 13 (by rfl)) rfl
        have dv17:f' 124=undef:=hdn 17 _ 124 rfl (hl3 17 (by rfl)) rfl
        clear hdn hl3
        rw[dv13,dv17]
        clear dv13 dv17 gs9 gs11 gs13 gs14
        refine Zab rfl ?_
        go_wp2_with fail
        exact Zaa ⟨_,rfl,Below.refl _ _,rfl⟩
       ·obtain rfl:=Option.some.inj hi
        have dv13:f' 120 = .bool false:=hdn 13 _ 120 rfl (hl3 13 (by rfl)) rfl
        have dv18:f' 125=undef:=hdn 18 _ 125 rfl (hl3 18 (by rfl)) rfl
        clear hdn hl3
        rw[dv13,dv18]
        clear dv13 dv18 gs9 gs11 gs13 gs14
        refine Zab rfl ?_
        go_wp2_with fail
        exact Zaa ⟨_,rfl,Below.refl _ _,rfl⟩
       ·obtain rfl:=Option.some.inj hi
        have dv10:f' 117 = .bool false:=hdn 10 _ 117 rfl (hl3 10 (by rfl)) rfl
        have dv13:f' 120 = .bool false:=hdn 13 _ 120 rfl (hl3 13 (by rfl)) rfl
        have dv19:f' 126=undef:=hdn 19 _ 126 rfl (hl3 19 (by rfl)) rfl
        clear hdn hl3
        rw[dv10,dv13,dv19]
        clear dv10 dv13 dv19 gs9 gs11 gs13 gs14
        refine Zab rfl ?_
        go_wp2_with fail
        exact Zaa ⟨_,rfl,Below.refl _ _,rfl⟩
       ·obtain rfl:=Option.some.inj hi
        have dv10:f' 117 = .bool false:=hdn 10 _ 117 rfl (hl3 10 (by rfl)) rfl
        have dv20:f' 127 = .bool false:=hdn 20 _ 127 rfl (hl3 20 (by rfl)) rfl
        clear hdn hl3
        rw[dv10,dv20]
        clear dv10 dv20 gs9 gs11 gs13 gs14
        refine Zab rfl ?_
        go_wp2_with fail
        exact Zaa ⟨_,rfl,Below.refl _ _,rfl⟩
      case he =>
       intro listed a' w4 H hall
       have hd21:opT ga oa gb ob un ct cB ix rn rc sn sc ro so 21 w4 (a'.tmps.getD 128 undef):=H.done 21 _ 128 rfl (hall 21 (by decide)) rfl
       have hb4:=ħ H.below
       have hact:=H.act [107,108,109,110,111,112,113,114,115,116,117,118,119,120,121,122,123,124,125,126,127,128] (Zcy (by kernel_rfl))
       clear H hall
       simp only[List.foldl_cons,List.foldl_nil] at hact
       generalize a'.tmps.getD 107 undef=z107 at *
       generalize a'.tmps.getD 108 undef=z108 at *
       generalize a'.tmps.getD 109 undef=z109 at *
       generalize a'.tmps.getD 110 undef=z110 at *
       generalize a'.tmps.getD 111 undef=z111 at *
       generalize a'.tmps.getD 112 undef=z112 at *
       generalize a'.tmps.getD 113 undef=z113 at *
       generalize a'.tmps.getD 114 undef=z114 at *
       generalize a'.tmps.getD 115 undef=z115 at *
       generalize a'.tmps.getD 116 undef=z116 at *
       generalize a'.tmps.getD 117 undef=z117 at *
       generalize a'.tmps.getD 118 undef=z118 at *
       generalize a'.tmps.getD 119 undef=z119 at *
       generalize a'.tmps.getD 120 undef=z120 at *
       generalize a'.tmps.getD 121 undef=z121 at *
       generalize a'.tmps.getD 122 undef=z122 at *
       generalize a'.tmps.getD 123 undef=z123 at *
       generalize a'.tmps.getD 124 undef=z124 at *
       generalize a'.tmps.getD 125 undef=z125 at *
       generalize a'.tmps.getD 126 undef=z126 at *
       generalize a'.tmps.getD 127 undef=z127 at *
       generalize a'.tmps.getD 128 undef=z128 at *
       subst hact
       have e21:z128 = .bool false:=hd21
       subst e21
       clear hd21
       simp only[Act.put,List.setIfInBounds_toArray,List.set_cons_succ,List.set_cons_zero]
       have L7:=ħ (LR.o.trans (hb4.o.mono LR.o.size))
       clear hb4 LR
       go_wp2_with fail
       go_roundw
       case rel=>exact⟨ix+1,by go_num,by omega,L7⟩
       case measure=>simp only[intOf];omega
     ·have ii:¬ (ix:Int)<un:=by omega
      have HON:=ħ (HP0.o.one (by trivial))
      obtain⟨ga,oa,ro,rc,hao,hga,hca,hfa⟩:=(HRA.o wr LR.o).at v _ HON.o
      have BE:=ħ ((Below.refl wr.heap.size wr).alloc (Nat.le_refl _) (.cells #[.int .i64 (m:Nat)] 3))
      have EV:Hid (Zaf (wr.alloc (.cells #[.int .i64 (m:Nat)] 3)) wr.heap.size 3 (ivs [((m:Nat):Int)])):=ħ (heap_alloc_new wr _)
      have HSM:=Zh1 (wr.alloc (.cells #[.int .i64 (m:Nat)] 3)) [((m:Nat):Int)] [((m:Nat):Int)] ro (some ⟨wr.heap.size,0,none⟩) rc 1 (hfa.below BE.o) EV.o.flatI (by simp)
      rw[decide_eq_true rfl] at HSM
      have HSM:=ħ HSM
      have LE:=ħ (LR.o.trans (BE.o.mono LR.o.size))
      have vv:(v:Int)<un:=by omega
      subst hao
      clear hfa hga EV BE
      go_wp2_with fail
      refine HSM.o.mono ?_
      rintro e wf ⟨rfl,bf⟩
      have BF:=ħ (BL.o.trans ((LE.o.trans (bf.mono LE.o.size)).mono BL.o.size))
      go_wp2_with fail
      go_ret
      exact⟨rfl,BF.o⟩
   | false =>
    rw[if_neg (by decide)] at hr6
    subst hr6
    clear HLA HFT
    have L6:=ħ (Below.refl w6.heap.size w6)
    have O1:Hid (Zaf (w6.alloc (.cells #[.slice none 0 0,.slice none 0 0,.slice none 0 0] 26)) w6.heap.size 26 [.slice none 0 0,.slice none 0 0,.slice none 0 0]):=ħ (heap_alloc_new w6 _)
    have BO:=ħ ((Below.refl w6.heap.size w6).alloc (Nat.le_refl _) (.cells #[.slice none 0 0,.slice none 0 0,.slice none 0 0] 26))
    go_upto_region 10 with (first | (refine wpList_load_row rfl 26 (.tmp 3) rfl (w.heap.size) ?xl9 26 #[.slice qo qn qc,.slice mo mn mc,.slice uo un uc] (0,0) _ X6.o Tryz.underlying26 rfl (Zbp _ _ _) ?_;(case xl9=>rfl)) | (refine Zaw rfl 26 (.tmp 12) (.tmp 65) rfl w6.heap.size #[.slice qo qn qc,.slice mo mn mc,.slice uo un uc] (by rfl) (by rfl) 26 _ O1.o (Zbp _ _ _) rfl (by simp[Value.oneCell']) ?_;intro w9 s9 u9;have S9:=ħ s9;have U9:=ħ u9;clear s9 u9))
    have A9:=ħ (U9.o.below BO.o (Nat.le_refl _))
    have S9:Hid (Zaf w9 w6.heap.size 26 [.slice qo qn qc,.slice mo mn mc,.slice uo un uc]):=ħ S9.o
    have X9:=ħ (X6.o.step A9.o)
    have L9:=ħ (L6.o.trans (A9.o.mono L6.o.size))
    have Z9:Hid (w6.heap.size<w9.heap.size):=ħ S9.o.lt
    clear O1 BO U9
    have B9:=ħ (B6.o.trans (L9.o.mono B6.o.size))
    have BE:=ħ ((Below.refl w9.heap.size w9).alloc (Nat.le_refl _) (.cells #[] 39))
    have XE:=ħ (X9.o.step BE.o)
    have SE:=ħ (S9.o.step BE.o)
    have c2:=XE.o.cell 2 _ rfl
    have OE:=ħ (OwnK.made w9 39 4)
    have FE:=ħ (HUF.o _ (B9.o.trans (BE.o.mono B9.o.size)))
    have KE:=BE.o.size
    go_upto_region 11 with (at_builtin;refine Zxl Zbv 24 39 (.agg #[.int .i64 0,.int .i64 0,.int .i64 0,.int .i64 0]) 4 32 Tryz.underlying24 Zei rfl (by omega) (by omega) Zap Zpe (w9.alloc (.cells #[] 39)) w9.heap.size rfl (.tmp 66) (.tmp 68) rfl ⟨w9.heap.size,0,none⟩ 0 ?q1 OE.o KE uo un uc c.us ?q2 HUE.o.symm FE.o (by omega) ?_;(case q1=>rfl);(case q2=>rfl);intro g5 off5 c5 wq o8 b8;have O8:=ħ o8;have S8:=ħ (SE.o.below b8 Z9.o);have c8:=S8.o.cell 2 _ rfl;have f8:=S8.o.warm 2;have B8:=ħ b8;clear o8 b8)
    have SZ:Hid (Zaf (wq.setCell ⟨w6.heap.size,2,none⟩ (.slice (some ⟨g5,off5,none⟩) un c5)) (w6.heap.size) 26 [.slice qo qn qc,.slice mo mn mc,.slice (some ⟨g5,off5,none⟩) un c5]):=ħ (S8.o.set 2 _)
    have HG5:Hid (w9.heap.size≤g5):=ħ (O8.o.blk_lt rfl).1
    have OZ:=ħ (O8.o.setCell (p:=⟨w6.heap.size,2,none⟩) (.slice (some ⟨g5,off5,none⟩) un c5) (fun e=>by
     have e:g5=w6.heap.size:=Option.some.inj e
     have:=HG5.o
     have:=Z9.o
     omega))
    have AZ:=ħ (((A9.o.trans ((BE.o.trans B8.o).mono A9.o.size))).setCell (p:=⟨w6.heap.size,2,none⟩) (Nat.le_refl _) (.slice (some ⟨g5,off5,none⟩) un c5))
    clear S8 O8 B8 c8 f8 OE SE XE FE BE KE c2 S9 X9 B9 L9 A9
    generalize wq.setCell ⟨w6.heap.size,2,none⟩ (.slice (some ⟨g5,off5,none⟩) un c5)=wz at *
    have BZ:=ħ (B6.o.trans (AZ.o.mono B6.o.size))
    have XZ:=ħ (X6.o.step AZ.o)
    have ZX:Hid (w6.heap.size<g5):=ħ (Nat.lt_of_lt_of_le Z9.o HG5.o)
    obtain⟨OY,f3,-⟩:=OZ.o.setUse HXX.o (m:Int)
    obtain⟨g6,o6,hp6,hg6,hr6⟩:=(OZ.o.flatR Zap HUE.o.symm).at Zap v x HXX.o
    obtain⟨rfl,rfl⟩:g5=g6∧off5=o6:=by simpa using hp6
    have z3:=hr6 3 _ rfl
    have z0:=SZ.o.cell 2 _ rfl
    have OY:=ħ OY
    have SY:=ħ (SZ.o.off (p:=⟨g5,off5+v*4+3,none⟩) (fun e=>by have e:w6.heap.size=g5:=e;have:=ZX.o;omega) (.int .i64 (m:Int)))
    have AY:=ħ (AZ.o.setCell (p:=⟨g5,off5+v*4+3,none⟩) (by show w6.heap.size≤g5;have:=ZX.o;omega) (.int .i64 (m:Int)))
    clear hr6 hp6 Z9 hg6
    go_upto_region 12 with (fail)
    clear z3 z0 f3 OZ SZ AZ XZ BZ
    generalize wz.setCell ⟨g5,off5+v*4+3,none⟩ (.int .i64 (m:Int))=wy at *
    have BY:=ħ (B6.o.trans (AY.o.mono B6.o.size))
    have XY:=ħ (X6.o.step AY.o)
    have HA2:=ħ (fun W (hW:Below wy.heap.size wy W)=>(by
     rw[HOC.o]
     exact Zmx (HAG.o W (BY.o.trans (hW.mono BY.o.size))) ((OY.o.below hW).flatR Zap (by rw[List.length_set];exact HUE.o.symm)) (by rw[List.length_set];exact HUE.o.symm) OY.o.len_le.1 (by rw[List.length_set,HUE.o];exact h999):ArgC W (Zgn c v (m:Int)) [.slice qo qn qc,.slice mo mn mc,.slice (some ⟨g5,off5,none⟩) un c5] B))
    have HRY:=ħ (fun W (hW:Below wy.heap.size wy W)=>HR6.o W (AY.o.trans (hW.mono AY.o.size)))
    obtain⟨sb,hsb⟩:∃ n,w6.heap.size=n:=⟨_,rfl⟩
    rw[hsb] at SY ⊢
    clear AY X6 B6 L6 HR6 OY ZX HG5 hsb
    go_wp2_with (refine wpList_load_row rfl 26 (.tmp 12) rfl (sb) ?l3 26 #[.slice qo qn qc,.slice mo mn mc,.slice (some ⟨g5,off5,none⟩) un c5] (0,0) _ SY.o Tryz.underlying26 rfl (Zbp _ _ _) ?_;(case l3=>rfl))
    refine (HS2.o wy _ (HA2.o wy (Below.refl _ _))).mono ?_
    rintro e wt ⟨bt,ot,ct,rfl,hrt⟩
    have LT:=ħ bt
    have XT:=ħ (XY.o.step bt)
    have ST:=ħ (SY.o.step bt)
    have BT:=ħ (BY.o.trans (bt.mono BY.o.size))
    have HRT:=ħ (fun W (hW:Below wt.heap.size wt W)=>hrt.below hW)
    have HRB:=ħ (fun W (hW:Below wt.heap.size wt W)=>HRY.o W (bt.trans (hW.mono bt.size)))
    have c2:=XT.o.cell 2 _ rfl
    clear bt hrt XY SY BY HRY
    go_upto_region 13 with (fail)
    have hun0:(((un:Nat):Int) != ((un:Nat):Int))=false:=by simp
    go_upto_region 16 with (fail)
    clear hun0 c2
    generalize wt=wl at *
    have BL:=BT
    have HRA:=HRT
    have HRB2:=HRB
    clear ST XT BT LT HRT HRB HA2
    go_wp2_with fail
    go_loopw [14] (fun iv wr=>∃ (ix:Nat),iv = .int .i64 ix∧ix≤un∧Hid (Below wl.heap.size wl wr)) (fun i _=>(un-intOf i).toNat)
    case atStart=>exact⟨0,rfl,by omega,ħ (Below.refl _ _)⟩
    case round =>
     obtain⟨ix,rfl,hi,LR⟩:=hrel
     have e2:IntKind.i64.wrap ((ix:Int)+1)=((ix+1:Nat):Int):=IntWalk.i64_in _ (by omega)
     by_cases hin:ix<un
     ·have ii:(ix:Int)<un:=by omega
      obtain⟨ra,hra⟩:∃ r,aft[ix]?=some r:=⟨_,List.getElem?_eq_getElem (by rw[HP0.o.la];exact hin)⟩
      obtain⟨rb,hrb⟩:∃ r,bef[ix]?=some r:=⟨_,List.getElem?_eq_getElem (by rw[HP0.o.lb];exact hin)⟩
      obtain⟨ga,oa,ro,rc,hao,hga,hca,hfa⟩:=(HRA.o wr LR.o).at ix ra hra
      obtain⟨gb,ob,so,sc,hbo,hgb,hcb,hfb⟩:=(HRB2.o wr LR.o).at ix rb hrb
      have h65a:=HP0.o.ra ra (List.mem_of_getElem? hra)
      have h65b:=HP0.o.rb rb (List.mem_of_getElem? hrb)
      have HSU:=ħ (HP0.o.sub ix ra rb hra hrb)
      have HR0:Hid (ra.length=0):=ħ (by rw[HP0.o.nil rfl ix ra hra];rfl)
      have HCA:=ħ (fun W (hW:Below wr.heap.size wr W)=>(hW.cell (p:=⟨ga,oa+ix,none⟩) hga).trans hca)
      have HCB:=ħ (fun W (hW:Below wr.heap.size wr W)=>(hW.cell (p:=⟨gb,ob+ix,none⟩) hgb).trans hcb)
      have HSB:=ħ (fun W (hW:Below wr.heap.size wr W)=>Zpf W ra rb ro so rc sc (hfa.below hW) (hfb.below hW) (by omega) (by omega))
      rw[HSU.o] at HSB
      have HII:=ħ ii
      have HAO:=ħ hao
      have HBO:=ħ hbo
      subst hao
      subst hbo
      clear hra hrb hca hcb hfa hfb hga hgb h65a h65b ii
      generalize ra.length=rn at *
      generalize rb.length=sn at *
      go_upto_region 18 with (fail)
      refine Zaz (opN ga oa gb ob un ct cB ix rn rc sn sc ro so) (by kernel_rfl) (Zw5 ga oa gb ob un ct cB ix rn rc sn sc ro so) (Zca (by kernel_rfl)) (Ze8 (by kernel_rfl)) (Zbc (by kernel_rfl)) ?hs ?he
      case hs =>
       intro i o hi listed a' w' H hl2
       have hl3:=Zas hl2
       have hin:i<22:=(Array.getElem?_eq_some_iff.1 hi).1
       have hb:=ħ H.below
       have s9:=H.same 9 (Zan (by kernel_rfl))
       have s11:=H.same 11 (Zan (by kernel_rfl))
       have s13:=H.same 13 (Zan (by kernel_rfl))
       have s14:=H.same 14 (Zan (by kernel_rfl))
       have hdn:=H.done
       have hdf:=H.defers
       have hts:=H.tsize
       clear hl2 H
       obtain⟨t',df⟩:=a'
       obtain⟨f',rfl⟩:=Zxm t' hts
       have hdf':df=[]:=hdf
       subst hdf'
       have gs9:f' 9 = .slice (some ⟨gb,ob,none⟩) un cB:=s9
       have gs11:f' 11 = .bool false:=s11
       have gs13:f' 13 = .slice (some ⟨ga,oa,none⟩) un ct:=s13
       have gs14:f' 14 = .int .i64 (ix:Nat):=s14
       clear s9 s11 s13 s14
       clear hdf hts
       have hcases:=Zjz i hin
       clear hin
       rcases hcases with rfl | rfl | rfl | rfl | rfl | rfl | rfl | rfl | rfl | rfl | rfl | rfl | rfl | rfl | rfl | rfl | rfl | rfl | rfl | rfl | rfl | rfl
       ·obtain rfl:=Option.some.inj hi
        clear hdn hl3
        rw[gs13]
        clear gs9 gs11 gs13 gs14
        refine Zab rfl ?_
        go_wp2_with fail
        exact Zaa ⟨_,rfl,Below.refl _ _,rfl⟩
       ·obtain rfl:=Option.some.inj hi
        clear hdn hl3
        rw[gs14]
        clear gs9 gs11 gs13 gs14
        refine Zab rfl ?_
        go_wp2_with fail
        exact Zaa ⟨_,rfl,Below.refl _ _,rfl⟩
       ·obtain rfl:=Option.some.inj hi
        have dv0:f' 107 = .slice (some ⟨ga,oa,none⟩) un ct:=hdn 0 _ 107 rfl (hl3 0 (by rfl)) rfl
        have dv1:f' 108 = .int .i64 (ix:Nat):=hdn 1 _ 108 rfl (hl3 1 (by rfl)) rfl
        clear hdn hl3
        rw[dv0,dv1]
        clear dv0 dv1 gs9 gs11 gs13 gs14
        have ii:=HII.o
        refine Zab rfl ?_
        go_wp2_with fail
        exact Zaa ⟨_,rfl,Below.refl _ _,rfl⟩
       ·obtain rfl:=Option.some.inj hi
        have dv2:f' 109 = .pointer (some ⟨ga,oa+ix,none⟩):=hdn 2 _ 109 rfl (hl3 2 (by rfl)) rfl
        clear hdn hl3
        rw[dv2]
        clear dv2 gs9 gs11 gs13 gs14
        have rr:=HCA.o w' hb.o
        refine Zab rfl ?_
        go_wp2_with fail
        exact Zaa ⟨_,rfl,Below.refl _ _,rfl⟩
       ·obtain rfl:=Option.some.inj hi
        clear hdn hl3
        rw[gs9]
        clear gs9 gs11 gs13 gs14
        refine Zab rfl ?_
        go_wp2_with fail
        exact Zaa ⟨_,rfl,Below.refl _ _,rfl⟩
       ·obtain rfl:=Option.some.inj hi
        clear hdn hl3
        rw[gs14]
        clear gs9 gs11 gs13 gs14
        refine Zab rfl ?_
        go_wp2_with fail
        exact Zaa ⟨_,rfl,Below.refl _ _,rfl⟩
       ·obtain rfl:=Option.some.inj hi
        have dv4:f' 111 = .slice (some ⟨gb,ob,none⟩) un cB:=hdn 4 _ 111 rfl (hl3 4 (by rfl)) rfl
        have dv5:f' 112 = .int .i64 (ix:Nat):=hdn 5 _ 112 rfl (hl3 5 (by rfl)) rfl
        clear hdn hl3
        rw[dv4,dv5]
        clear dv4 dv5 gs9 gs11 gs13 gs14
        have ii:=HII.o
        refine Zab rfl ?_
        go_wp2_with fail
        exact Zaa ⟨_,rfl,Below.refl _ _,rfl⟩
       ·obtain rfl:=Option.some.inj hi
        have dv6:f' 113 = .pointer (some ⟨gb,ob+ix,none⟩):=hdn 6 _ 113 rfl (hl3 6 (by rfl)) rfl
        clear hdn hl3
        rw[dv6]
        clear dv6 gs9 gs11 gs13 gs14
        have rr:=HCB.o w' hb.o
        refine Zab rfl ?_
        go_wp2_with fail
        exact Zaa ⟨_,rfl,Below.refl _ _,rfl⟩
       ·obtain rfl:=Option.some.inj hi
        have dv3:f' 110 = .slice ro rn rc:=hdn 3 _ 110 rfl (hl3 3 (by rfl)) rfl
        have dv7:f' 114 = .slice so sn sc:=hdn 7 _ 114 rfl (hl3 7 (by rfl)) rfl
        clear hdn hl3
        rw[dv3,dv7]
        clear dv3 dv7 gs9 gs11 gs13 gs14
        refine Zab rfl ?_
        go_wp2_with fail
        refine (HSB.o w' hb.o).mono ?_
        rintro e w4 ⟨rfl,b4⟩
        have HB4:=ħ b4
        clear b4
        go_wp2_with fail
        exact Zaa ⟨_,rfl,HB4.o,rfl⟩
       ·obtain rfl:=Option.some.inj hi
        have dv8:f' 115 = .bool true:=hdn 8 _ 115 rfl (hl3 8 (by rfl)) rfl
        clear hdn hl3
        rw[dv8]
        clear dv8 gs9 gs11 gs13 gs14
        refine Zab rfl ?_
        go_wp2_with fail
        exact Zaa ⟨_,rfl,Below.refl _ _,rfl⟩
       ·obtain rfl:=Option.some.inj hi
        have dv9:f' 116 = .bool false:=hdn 9 _ 116 rfl (hl3 9 (by rfl)) rfl
        clear hdn hl3
        rw[dv9]
        clear dv9 gs9 gs11 gs13 gs14
        refine Zab rfl ?_
        go_wp2_with fail
        exact Zaa ⟨_,rfl,Below.refl _ _,rfl⟩
       ·obtain rfl:=Option.some.inj hi
        have dv10:f' 117 = .bool false:=hdn 10 _ 117 rfl (hl3 10 (by rfl)) rfl
        clear hdn hl3
        rw[gs11,dv10]
        clear dv10 gs9 gs11 gs13 gs14
        refine Zab rfl ?_
        go_wp2_with fail
        exact Zaa ⟨_,rfl,Below.refl _ _,rfl⟩
       ·obtain rfl:=Option.some.inj hi
        have dv10:f' 117 = .bool false:=hdn 10 _ 117 rfl (hl3 10 (by rfl)) rfl
        have dv11:f' 118 = .bool false:=hdn 11 _ 118 rfl (hl3 11 (by rfl)) rfl
        clear hdn hl3
        rw[dv10,dv11]
        clear dv10 dv11 gs9 gs11 gs13 gs14
        refine Zab rfl ?_
        go_wp2_with fail
        exact Zaa ⟨_,rfl,Below.refl _ _,rfl⟩
       ·obtain rfl:=Option.some.inj hi
        have dv10:f' 117 = .bool false:=hdn 10 _ 117 rfl (hl3 10 (by rfl)) rfl
        have dv12:f' 119 = .bool true:=hdn 12 _ 119 rfl (hl3 12 (by rfl)) rfl
        clear hdn hl3
        rw[dv10,dv12]
        clear dv10 dv12 gs9 gs11 gs13 gs14
        refine Zab rfl ?_
        go_wp2_with fail
        exact Zaa ⟨_,rfl,Below.refl _ _,rfl⟩
       ·obtain rfl:=Option.some.inj hi
        have dv13:f' 120 = .bool true:=hdn 13 _ 120 rfl (hl3 13 (by rfl)) rfl
        clear hdn hl3
        rw[gs13,dv13]
        clear dv13 gs9 gs11 gs13 gs14
        refine Zab rfl ?_
        go_wp2_with fail
        exact Zaa ⟨_,rfl,Below.refl _ _,rfl⟩
       ·obtain rfl:=Option.some.inj hi
        have dv13:f' 120 = .bool true:=hdn 13 _ 120 rfl (hl3 13 (by rfl)) rfl
        clear hdn hl3
        rw[gs14,dv13]
        clear dv13 gs9 gs11 gs13 gs14
        refine Zab rfl ?_
        go_wp2_with fail
        exact Zaa ⟨_,rfl,Below.refl _ _,rfl⟩
       ·obtain rfl:=Option.some.inj hi
        have dv13:f' 120 = .bool true:=hdn 13 _ 120 rfl (hl3 13 (by rfl)) rfl
        have dv14:f' 121 = .slice (some ⟨ga,oa,none⟩) un ct:=hdn 14 _ 121 rfl (hl3 14 (by rfl)) rfl
        have dv15:f' 122 = .int .i64 (ix:Nat):=hdn 15 _ 122 rfl (hl3 15 (by rfl)) rfl
        clear hdn hl3
        rw[dv13,dv14,dv15]
        clear dv13 dv14 dv15 gs9 gs11 gs13 gs14
        have ii:=HII.o
        refine Zab rfl ?_
        go_wp2_with fail
        exact Zaa ⟨_,rfl,Below.refl _ _,rfl⟩
       ·obtain rfl:=Option.some.inj hi
        have dv13:f' 120 = .bool true:=hdn 13 _ 120 rfl (hl3 13 (by rfl)) rfl
        have dv16:f' 123 = .pointer (some ⟨ga,oa+ix,none⟩):=hdn 16 _ 123 rfl (hl3 16 (by rfl)) rfl
        clear hdn hl3
        rw[dv13,dv16]
        clear dv13 dv16 gs9 gs11 gs13 gs14
        have rr:=HCA.o w' hb.o
        refine Zab rfl ?_
        go_wp2_with fail
        exact Zaa ⟨_,rfl,Below.refl _ _,rfl⟩
       ·obtain rfl:=Option.some.inj hi
        have dv13:f' 120 = .bool true:=hdn 13 _ 120 rfl (hl3 13 (by rfl)) rfl
        have dv17:f' 124 = .slice ro rn rc:=hdn 17 _ 124 rfl (hl3 17 (by rfl)) rfl
        clear hdn hl3
        rw[dv13,dv17]
        clear dv13 dv17 gs9 gs11 gs13 gs14
        refine Zab rfl ?_
        go_wp2_with fail
        exact Zaa ⟨_,rfl,Below.refl _ _,rfl⟩
       ·obtain rfl:=Option.some.inj hi
        have dv13:f' 120 = .bool true:=hdn 13 _ 120 rfl (hl3 13 (by rfl)) rfl
        have dv18:f' 125 = .int .i64 (rn:Nat):=hdn 18 _ 125 rfl (hl3 18 (by rfl)) rfl
        clear hdn hl3
        rw[dv13,dv18]
        clear dv13 dv18 gs9 gs11 gs13 gs14
        have rn0:=HR0.o
        subst rn0
        refine Zab rfl ?_
        go_wp2_with fail
        exact Zaa ⟨_,rfl,Below.refl _ _,rfl⟩
       ·obtain rfl:=Option.some.inj hi
        have dv10:f' 117 = .bool false:=hdn 10 _ 117 rfl (hl3 10 (by rfl)) rfl
        have dv13:f' 120 = .bool true:=hdn 13 _ 120 rfl (hl3 13 (by rfl)) rfl
        have dv19:f' 126 = .bool false:=hdn 19 _ 126 rfl (hl3 19 (by rfl)) rfl
        clear hdn hl3
        rw[dv10,dv13,dv19]
        clear dv10 dv13 dv19 gs9 gs11 gs13 gs14
        refine Zab rfl ?_
        go_wp2_with fail
        exact Zaa ⟨_,rfl,Below.refl _ _,rfl⟩
       ·obtain rfl:=Option.some.inj hi
        have dv10:f' 117 = .bool false:=hdn 10 _ 117 rfl (hl3 10 (by rfl)) rfl
        have dv20:f' 127 = .bool false:=hdn 20 _ 127 rfl (hl3 20 (by rfl)) rfl
        clear hdn hl3
        rw[dv10,dv20]
        clear dv10 dv20 gs9 gs11 gs13 gs14
        refine Zab rfl ?_
        go_wp2_with fail
        exact Zaa ⟨_,rfl,Below.refl _ _,rfl⟩
      case he =>
       intro listed a' w4 H hall
       have hd21:opN ga oa gb ob un ct cB ix rn rc sn sc ro so 21 w4 (a'.tmps.getD 128 undef):=H.done 21 _ 128 rfl (hall 21 (by decide)) rfl
       have hb4:=ħ H.below
       have hact:=H.act [107,108,109,110,111,112,113,114,115,116,117,118,119,120,121,122,123,124,125,126,127,128] (Zcy (by kernel_rfl))
       clear H hall
       simp only[List.foldl_cons,List.foldl_nil] at hact
       generalize a'.tmps.getD 107 undef=z107 at *
       generalize a'.tmps.getD 108 undef=z108 at *
       generalize a'.tmps.getD 109 undef=z109 at *
       generalize a'.tmps.getD 110 undef=z110 at *
       generalize a'.tmps.getD 111 undef=z111 at *
       generalize a'.tmps.getD 112 undef=z112 at *
       generalize a'.tmps.getD 113 undef=z113 at *
       generalize a'.tmps.getD 114 undef=z114 at *
       generalize a'.tmps.getD 115 undef=z115 at *
       generalize a'.tmps.getD 116 undef=z116 at *
       generalize a'.tmps.getD 117 undef=z117 at *
       generalize a'.tmps.getD 118 undef=z118 at *
       generalize a'.tmps.getD 119 undef=z119 at *
       generalize a'.tmps.getD 120 undef=z120 at *
       generalize a'.tmps.getD 121 undef=z121 at *
       generalize a'.tmps.getD 122 undef=z122 at *
       generalize a'.tmps.getD 123 undef=z123 at *
       generalize a'.tmps.getD 124 undef=z124 at *
       generalize a'.tmps.getD 125 undef=z125 at *
       generalize a'.tmps.getD 126 undef=z126 at *
       generalize a'.tmps.getD 127 undef=z127 at *
       generalize a'.tmps.getD 128 undef=z128 at *
       subst hact
       have e21:z128 = .bool false:=hd21
       subst e21
       clear hd21
       simp only[Act.put,List.setIfInBounds_toArray,List.set_cons_succ,List.set_cons_zero]
       have L7:=ħ (LR.o.trans (hb4.o.mono LR.o.size))
       clear hb4 LR
       go_wp2_with fail
       go_roundw
       case rel=>exact⟨ix+1,by go_num,by omega,L7⟩
       case measure=>simp only[intOf];omega
     ·have ii:¬ (ix:Int)<un:=by omega
      have BF:=ħ (BL.o.trans (LR.o.mono BL.o.size))
      go_wp2_with fail
      go_ret
      exact⟨rfl,BF.o⟩
  ·have hhb:(x.h != -1)=true:=by simpa using hh
   go_wp2_with fail
   go_ret
   exact⟨rfl,B4.o⟩
end
end Go.Proofs.YtbcgocpihobjnaaGreatDoor
