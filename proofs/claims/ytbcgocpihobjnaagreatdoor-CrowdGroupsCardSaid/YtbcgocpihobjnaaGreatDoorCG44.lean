import Derived.Test.YtbcgocpihobjnaaGreatDoorCG43
import Derived.Test.YtbcgocpihobjnaaGreatDoorCG40
import Derived.Test.YtbcgocpihobjnaaGreatDoorCG38
import Derived.Test.YtbcgocpihobjnaaGreatDoorCG34
import Derived.Test.YtbcgocpihobjnaaGreatDoorCG37
import Derived.Test.YtbcgocpihobjnaaGreatDoorCG23
import Derived.Test.YtbcgocpihobjnaaGreatDoorCG11
import Derived.Test.YtbcgocpihobjnaaGreatDoorCG41
set_option linter.all false
set_option maxHeartbeats 32000000
set_option maxRecDepth 100000
namespace Go.Proofs.YtbcgocpihobjnaaGreatDoor
section
open Go Go.ChangeShapes Go.WideShapes Go.ChangeAt Go.WideMaps Go.WideElems Go.RowKit
theorem Z2t:Tryz.prog.cellsOf 44=3:=by kernel_rfl
theorem Z19:Tryz.prog.cellsOf 39=4:=by kernel_rfl
theorem cLP:Tryz.prog.cellsOf 22=1:=by kernel_rfl
theorem cLB:Tryz.prog.cellsOf 42=1:=by kernel_rfl
theorem cLI:Tryz.prog.cellsOf 33=1:=by kernel_rfl
theorem cLM:Tryz.prog.cellsOf 23=1:=by kernel_rfl
theorem cLS:Tryz.prog.cellsOf 24=1:=by kernel_rfl
instance:Inhabited Use:=⟨⟨0,0,0,0⟩⟩
instance:Inhabited Wsh:=⟨⟨0,0⟩⟩
instance:Inhabited Mem:=⟨⟨[],[],0⟩⟩
section
variable {H:Type} {enc:TypeId×Value→H} {W:World}
theorem Zv3 {fuel:Nat} {v:Value} {y:DataW H×List MemPlace} (h:DataW.trod enc Tryz.prog W 0 (fun _=>true) true fuel 33 [v]=some y) :
  ∃ (l:List Int) (ao:Option Addr) (n c:Nat),v = .slice ao n c∧n=l.length∧n≤c∧n≤9223372036854775807∧Zal Zbj W ao l:=by
 obtain⟨ao,n,c,e4,hmc,hcm,hel⟩:=Zcp Tryz.underlying33 cI (by decide) h;have hlen:n≤9223372036854775807:=Nat.le_trans hmc (Nat.le_trans hcm (by decide));rcases hel with h0 | ⟨g,off,n',h1,h2,h3,h4⟩
 ·exact⟨[],ao,n,c,e4,h0,hmc,hlen,.inl rfl⟩
 ·obtain⟨l,hl,hk⟩:=Zea (α:=Int) n (fun i x=>W.cell? ⟨g,off+i,none⟩=some (.int .i64 x)) (fun i hi=>by
   obtain⟨cs,y,h5,h6,h7⟩:=h4 i hi
   match cs,h5 with
   | [c0],_ =>
    obtain⟨k,e0,-,-⟩:=DataW.trod_int Tryz.underlying3 h7;simp only[List.cons.injEq,and_true] at e0;subst e0;have:=h6 0 _ rfl;rw[Nat.mul_one,Nat.add_zero] at this
    exact⟨k,this⟩)
  refine⟨l,ao,n,c,e4,hl.symm,hmc,hlen,.inr ⟨g,off,h1,h2,fun j u hj=>?_⟩⟩;rw[← Ze9,ivs,List.getElem?_map] at hj;obtain⟨x,hx,rfl⟩:=Option.map_eq_some_iff.1 hj;exact hk j x hx
theorem Zv4 {fuel:Nat} {v:Value} {y:DataW H×List MemPlace} (h:DataW.trod enc Tryz.prog W 0 (fun _=>true) true fuel 22 [v]=some y) :
  ∃ (l:List Prd) (ao:Option Addr) (n c:Nat),v = .slice ao n c∧n=l.length∧n≤c∧n≤9223372036854775807∧Zff W (fun _=>True) l ao∧(∀ p∈l,ByL p)∧(∀ p∈l,Zt0 p):=by
 obtain⟨ao,n,c,e4,hmc,hcm,hel⟩:=Zcp Tryz.underlying22 cP (by decide) h;have hlen:n≤9223372036854775807:=Nat.le_trans hmc (Nat.le_trans hcm (by decide));rcases hel with h0 | ⟨g,off,n',h1,h2,h3,h4⟩
 ·exact⟨[],ao,n,c,e4,h0,hmc,hlen,.inl rfl,by simp,by simp⟩
 ·obtain⟨ks,hkl,hk⟩:=Zea (α:=Prd) n (fun i p=>(∃ vs,Zam W (fun g=>g<W.heap.size) p vs∧Zaz W g (off+i*5) vs)∧ByL p∧Zt0 p) (fun i hi=>by
   obtain⟨cs,y,h5,h6,h7⟩:=h4 i hi;obtain⟨p,hp1,hp2,hp3⟩:=Zu8 n' cs y h7
   exact⟨p,⟨cs,hp1,h6⟩,hp2,hp3⟩)
  have hpr:Zff W (fun g=>g<W.heap.size) ks ao:=.inr ⟨g,off,h1,h2,h2,Zlx ks g off (fun i p hp=>(hk i p hp).1)⟩;refine⟨ks,ao,n,c,e4,hkl.symm,hmc,hlen,hpr.mono (fun _ _ _=>trivial),fun q hq=>?_,fun q hq=>?_⟩
  ·obtain⟨i,hi⟩:=List.mem_iff_getElem?.1 hq
   exact (hk i q hi).2.1
  ·obtain⟨i,hi⟩:=List.mem_iff_getElem?.1 hq
   exact (hk i q hi).2.2
theorem Zv5 {fuel:Nat} {v:Value} {y:DataW H×List MemPlace} (h:DataW.trod enc Tryz.prog W 0 (fun _=>true) true fuel 42 [v]=some y) :
  ∃ (l:List Bnd) (ao:Option Addr) (n c:Nat),v = .slice ao n c∧n=l.length∧n≤c∧n≤9223372036854775807∧(∀ b∈l,NmL b.n)∧Zal Zy6 W ao l:=by
 obtain⟨ao,n,c,e4,hmc,hcm,hel⟩:=Zcp Tryz.underlying42 cB (by decide) h;have hlen:n≤9223372036854775807:=Nat.le_trans hmc (Nat.le_trans hcm (by decide));rcases hel with h0 | ⟨g,off,n',h1,h2,h3,h4⟩
 ·exact⟨[],ao,n,c,e4,h0,hmc,hlen,by simp,.inl rfl⟩
 ·obtain⟨l,hl,hk⟩:=Zea (α:=Bnd) n (fun i b=>(NmL b.n)∧Zaz W g (off+i*2) (Zy6 b)) (fun i hi=>by
   obtain⟨cs,y,h5,h6,h7⟩:=h4 i hi;obtain⟨xs,n2,hn,-,hl,hxl,hf⟩:=DataW.trod_struct Tryz.underlying164 h7
   match cs,h5 with
   | [c0,c1],_ =>
    match xs,hxl with
    | [y0,y1],_ =>
     have f0:DataW.trod enc Tryz.prog W 0 (fun _=>true) true n2 9 (([c0,c1]:List Value).drop 0 |>.take (Tryz.prog.cellsOf 9))=some y0:=hf 0 _ rfl;have f1:DataW.trod enc Tryz.prog W 0 (fun _=>true) true n2 3 (([c0,c1]:List Value).drop 1 |>.take (Tryz.prog.cellsOf 3))=some y1:=hf 1 _ rfl;rw[cS] at f0;rw[cI] at f1;obtain⟨s0,e0,-,z0⟩:=DataW.trod_string Tryz.underlying9 (show DataW.trod enc Tryz.prog W 0 (fun _=>true) true n2 9 [c0]=some y0 from f0);obtain⟨k1,e1,-,-⟩:=DataW.trod_int Tryz.underlying3 (show DataW.trod enc Tryz.prog W 0 (fun _=>true) true n2 3 [c1]=some y1 from f1);simp only[List.cons.injEq,and_true] at e0 e1;subst e0 e1;obtain⟨l0,rfl,b0,g0⟩:=Zel s0
     exact⟨⟨l0,k1⟩,⟨b0,by rw[g0];exact Nat.le_trans z0 (by decide)⟩,h6⟩)
  refine⟨l,ao,n,c,e4,hl.symm,hmc,hlen,fun b hb=>?_,.inr ⟨g,off,h1,h2,fun j u hj=>?_⟩⟩
  ·obtain⟨i,hi⟩:=List.mem_iff_getElem?.1 hb
   exact (hk i b hi).1
  ·have hjl:=(List.getElem?_eq_some_iff.1 hj).1
   rw[Zbz Zy6 2 Zlu] at hjl
   have hi:j/2<l.length:=by omega
   have hb:=List.getElem?_eq_getElem hi
   have hjj:j=j/2*2+j%2:=by omega
   have h9:=(hk (j/2) _ hb).2 (j%2) u (by
    rw[← Zct Zy6 2 Zlu l (j/2) (j%2) _ hb (Nat.mod_lt _ (by decide)),← hjj];exact hj)
   rwa [Nat.add_assoc,← hjj] at h9
theorem Zv6 {fuel:Nat} {v:Value} {y:DataW H×List MemPlace} (h:DataW.trod enc Tryz.prog W 0 (fun _=>true) true fuel 24 [v]=some y) :
  ∃ (l:List Use) (ao:Option Addr) (n c:Nat),v = .slice ao n c∧n=l.length∧n≤c∧n≤9223372036854775807∧(∀ b∈l,True)∧Zal Zbv W ao l:=by
 obtain⟨ao,n,c,e4,hmc,hcm,hel⟩:=Zcp Tryz.underlying24 Z19 (by decide) h;have hlen:n≤9223372036854775807:=Nat.le_trans hmc (Nat.le_trans hcm (by decide));rcases hel with h0 | ⟨g,off,n',h1,h2,h3,h4⟩
 ·exact⟨[],ao,n,c,e4,h0,hmc,hlen,by simp,.inl rfl⟩
 ·obtain⟨l,hl,hk⟩:=Zea (α:=Use) n (fun i b=>(True)∧Zaz W g (off+i*4) (Zbv b)) (fun i hi=>by
   obtain⟨cs,y,h5,h6,h7⟩:=h4 i hi;obtain⟨xs,n2,hn,-,hl,hxl,hf⟩:=DataW.trod_struct Tryz.underlying39 h7
   match cs,h5 with
   | [c0,c1,c2,c3],_ =>
    match xs,hxl with
    | [y0,y1,y2,y3],_ =>
     have f0:DataW.trod enc Tryz.prog W 0 (fun _=>true) true n2 3 (([c0,c1,c2,c3]:List Value).drop 0 |>.take (Tryz.prog.cellsOf 3))=some y0:=hf 0 _ rfl;have f1:DataW.trod enc Tryz.prog W 0 (fun _=>true) true n2 3 (([c0,c1,c2,c3]:List Value).drop 1 |>.take (Tryz.prog.cellsOf 3))=some y1:=hf 1 _ rfl;have f2:DataW.trod enc Tryz.prog W 0 (fun _=>true) true n2 3 (([c0,c1,c2,c3]:List Value).drop 2 |>.take (Tryz.prog.cellsOf 3))=some y2:=hf 2 _ rfl;have f3:DataW.trod enc Tryz.prog W 0 (fun _=>true) true n2 3 (([c0,c1,c2,c3]:List Value).drop 3 |>.take (Tryz.prog.cellsOf 3))=some y3:=hf 3 _ rfl;rw[cI] at f0;rw[cI] at f1;rw[cI] at f2;rw[cI] at f3;obtain⟨k0,e0,-,-⟩:=DataW.trod_int Tryz.underlying3 (show DataW.trod enc Tryz.prog W 0 (fun _=>true) true n2 3 [c0]=some y0 from f0);obtain⟨k1,e1,-,-⟩:=DataW.trod_int Tryz.underlying3 (show DataW.trod enc Tryz.prog W 0 (fun _=>true) true n2 3 [c1]=some y1 from f1);obtain⟨k2,e2,-,-⟩:=DataW.trod_int Tryz.underlying3 (show DataW.trod enc Tryz.prog W 0 (fun _=>true) true n2 3 [c2]=some y2 from f2);obtain⟨k3,e3,-,-⟩:=DataW.trod_int Tryz.underlying3 (show DataW.trod enc Tryz.prog W 0 (fun _=>true) true n2 3 [c3]=some y3 from f3);simp only[List.cons.injEq,and_true] at e0 e1 e2 e3;subst e0 e1 e2 e3
     exact⟨⟨k0,k1,k2,k3⟩,trivial,h6⟩)
  refine⟨l,ao,n,c,e4,hl.symm,hmc,hlen,fun b hb=>?_,.inr ⟨g,off,h1,h2,fun j u hj=>?_⟩⟩
  ·obtain⟨i,hi⟩:=List.mem_iff_getElem?.1 hb
   exact (hk i b hi).1
  ·have hjl:=(List.getElem?_eq_some_iff.1 hj).1
   rw[Zbz Zbv 4 Za2] at hjl
   have hi:j/4<l.length:=by omega
   have hb:=List.getElem?_eq_getElem hi
   have hjj:j=j/4*4+j%4:=by omega
   have h9:=(hk (j/4) _ hb).2 (j%4) u (by
    rw[← Zct Zbv 4 Za2 l (j/4) (j%4) _ hb (Nat.mod_lt _ (by decide)),← hjj];exact hj)
   rwa [Nat.add_assoc,← hjj] at h9
theorem Zv7 {fuel:Nat} {v:Value} {y:DataW H×List MemPlace} (h:DataW.trod enc Tryz.prog W 0 (fun _=>true) true fuel 23 [v]=some y) :
  ∃ (l:List Mem) (ao:Option Addr) (n c:Nat),v = .slice ao n c∧n=l.length∧n≤c∧n≤9223372036854775807∧(∀ m∈l,(∀ b∈m.b,NmL b.n)∧m.b.length≤9223372036854775807∧m.t.length≤9223372036854775807)∧Ziu W l ao:=by
 obtain⟨ao,n,c,e4,hmc,hcm,hel⟩:=Zcp Tryz.underlying23 Z2t (by decide) h;have hlen:n≤9223372036854775807:=Nat.le_trans hmc (Nat.le_trans hcm (by decide));rcases hel with h0 | ⟨g,off,n',h1,h2,h3,h4⟩
 ·exact⟨[],ao,n,c,e4,h0,hmc,hlen,by simp,.inl rfl⟩
 ·obtain⟨l,hl,hk⟩:=Zea (α:=Mem) n (fun i m=>((∀ b∈m.b,NmL b.n)∧m.b.length≤9223372036854775807∧m.t.length≤9223372036854775807)∧∃ cs,Zub W m cs∧Zaz W g (off+i*3) cs) (fun i hi=>by
   obtain⟨cs,y,h5,h6,h7⟩:=h4 i hi;obtain⟨xs,n2,hn,-,hl,hxl,hf⟩:=DataW.trod_struct Tryz.underlying44 h7
   match cs,h5 with
   | [c0,c1,c2],_ =>
    match xs,hxl with
    | [y0,y1,y2],_ =>
     have f0:DataW.trod enc Tryz.prog W 0 (fun _=>true) true n2 42 (([c0,c1,c2]:List Value).drop 0 |>.take (Tryz.prog.cellsOf 42))=some y0:=hf 0 _ rfl;have f1:DataW.trod enc Tryz.prog W 0 (fun _=>true) true n2 33 (([c0,c1,c2]:List Value).drop 1 |>.take (Tryz.prog.cellsOf 33))=some y1:=hf 1 _ rfl;have f2:DataW.trod enc Tryz.prog W 0 (fun _=>true) true n2 3 (([c0,c1,c2]:List Value).drop 2 |>.take (Tryz.prog.cellsOf 3))=some y2:=hf 2 _ rfl;rw[cLB] at f0;rw[cLI] at f1;rw[cI] at f2;obtain⟨bl,bo,bn,bc,e0,hb1,hb2,hb3,hb4,hb5⟩:=Zv5 (show DataW.trod enc Tryz.prog W 0 (fun _=>true) true n2 42 [c0]=some y0 from f0);obtain⟨tl,ta,tn,tc,e1,ht1,ht2,ht3,ht4⟩:=Zv3 (show DataW.trod enc Tryz.prog W 0 (fun _=>true) true n2 33 [c1]=some y1 from f1);obtain⟨k,e2,-,-⟩:=DataW.trod_int Tryz.underlying3 (show DataW.trod enc Tryz.prog W 0 (fun _=>true) true n2 3 [c2]=some y2 from f2);simp only[List.cons.injEq,and_true] at e2;subst e0 e1 e2 hb1 ht1;refine⟨⟨bl,tl,k⟩,⟨hb4,hb3,ht3⟩,_,⟨bo,bc,ta,tc,rfl,?_,ht4⟩,h6⟩;rcases hb5 with hb5 | ⟨g5,o5,q1,q2,q3⟩
     ·exact .inl hb5
     ·exact .inr ⟨g5,o5,q1,trivial,q2,q3⟩)
  refine⟨l,ao,n,c,e4,hl.symm,hmc,hlen,fun m hm=>?_,.inr ⟨g,off,h1,h2,fun i m hm=>(hk i m hm).2⟩⟩;obtain⟨i,hi⟩:=List.mem_iff_getElem?.1 hm;exact (hk i m hi).1
theorem Zys {r:Reach} {b0:Nat} {v:Value} {d:DataW H} {p:List MemPlace} (hv:Value.okWide Tryz.prog W r b0 26 v) (h:DataW.Trod enc Tryz.prog W 0 (fun _=>true) true 26 v d p) :
  ∃ (c:Crw) (cs:List Value),v = .agg cs.toArray∧Zf9 W c cs∧LenC c∧(∀ p∈c.qs,ByL p)∧(∀ m∈c.ms,∀ b∈m.b,NmL b.n):=by
 obtain⟨cs,rfl,hsz⟩:=okWide_struct Tryz.underlying26 hv;obtain⟨fuel,hf⟩:=h;have hcs:(Value.agg cs).cells=cs:=rfl;rw[hcs] at hf;obtain⟨xs,n2,hn,-,hl,hxl,hf⟩:=DataW.trod_struct Tryz.underlying26 hf
 have hl3:cs.toList.length=3:=by rw[hl];kernel_rfl
 obtain⟨l0⟩:=cs
 match l0,hl3 with
 | [c0,c1,c2],_ =>
  match xs,hxl with
  | [y0,y1,y2],_ =>
   have f0:DataW.trod enc Tryz.prog W 0 (fun _=>true) true n2 22 (([c0,c1,c2]:List Value).drop 0 |>.take (Tryz.prog.cellsOf 22))=some y0:=hf 0 _ rfl;have f1:DataW.trod enc Tryz.prog W 0 (fun _=>true) true n2 23 (([c0,c1,c2]:List Value).drop 1 |>.take (Tryz.prog.cellsOf 23))=some y1:=hf 1 _ rfl;have f2:DataW.trod enc Tryz.prog W 0 (fun _=>true) true n2 24 (([c0,c1,c2]:List Value).drop 2 |>.take (Tryz.prog.cellsOf 24))=some y2:=hf 2 _ rfl;rw[cLP] at f0;rw[cLM] at f1;rw[cLS] at f2;obtain⟨ql,qo,qn,qc,e0,hq1,hq2,hq3,hq4,hq5,hq6⟩:=Zv4 (show DataW.trod enc Tryz.prog W 0 (fun _=>true) true n2 22 [c0]=some y0 from f0);obtain⟨ml,mo,mn,mc,e1,hm1,hm2,hm3,hm4,hm5⟩:=Zv7 (show DataW.trod enc Tryz.prog W 0 (fun _=>true) true n2 23 [c1]=some y1 from f1);obtain⟨ul,uo,un,uc,e2,hu1,hu2,hu3,-,hu5⟩:=Zv6 (show DataW.trod enc Tryz.prog W 0 (fun _=>true) true n2 24 [c2]=some y2 from f2);subst e0 e1 e2 hq1 hm1 hu1;exact⟨⟨ql,ml,ul⟩,_,rfl,⟨qo,qc,mo,mc,uo,uc,rfl,hq4,hm5,hu5,hu2⟩,⟨hq6,fun m hm=>(hm4 m hm).2,hq3,hm3,hu3⟩,hq5,fun m hm=>(hm4 m hm).1⟩
end
theorem Z0n {c:Crw} (hf:Zyq c=true) (hL:LenC c) (hb:∀ p∈c.qs,ByL p) (hm:∀ m∈c.ms,∀ b∈m.b,NmL b.n):CrwOk c∧c.us.length≤999∧c.ms.length≤65∧c.qs.length≤129:=by
 unfold Zyq at hf;simp only[Bool.and_eq_true,List.all_eq_true] at hf;obtain⟨⟨h1,h2⟩,h3⟩:=hf;unfold Zef at h1;simp only[Bool.and_eq_true,Bool.or_eq_true,decide_eq_true_eq] at h1;refine⟨⟨fun p hp=>⟨hb p hp,?_⟩,fun m hmm=>⟨hm m hmm,?_,?_⟩,by omega,by omega,by omega⟩,by omega,by omega,by omega⟩
 ·have:=Zz2 (h2 p hp);omega
 ·have:=h3 m hmm
  unfold Zv2 at this;simp only[Bool.and_eq_true,decide_eq_true_eq] at this;omega
 ·have:=h3 m hmm
  unfold Zv2 at this;simp only[Bool.and_eq_true,decide_eq_true_eq] at this;omega
end
section
open Go.RowKit Go.Sort Go.Maps
theorem Zpe {T:Tbl} (h:(Zep T).2=0):∀ k,k<16→(Zbw T k).length≤12:=by
 intro k hk;unfold Zep at h
 split at h
 ·cases h
 ·rename_i h2
  rcases Nat.lt_or_ge 12 (Zbw T k).length with h3 | h3
  ·exact absurd (List.any_eq_true.2 ⟨k,List.mem_range.2 hk,by simpa using h3⟩) h2
  ·exact h3
end
section
open Go.RowKit Go.Sort Go.Maps
theorem Zaf.off {w:World} {g:Nat} {t:TypeId} {cs:List Value} (h:Zaf w g t cs) {p:Addr} (hp:g≠p.block) (u:Value):Zaf (w.setCell p u) g t cs:=by
 unfold Zaf;rw[Below.heap_setCell _ _ _ _ hp];exact h
theorem Zv8 {w:World} {c:Crw} {qo mo uo:Option Addr} {qn mn un qc mc uc:Nat} (h:Zf9 w c [.slice qo qn qc,.slice mo mn mc,.slice uo un uc]):Zal Zbv w uo c.us∧un=c.us.length∧un≤uc:=by
 obtain⟨qo',qc',mo',mc',uo',uc',he,h1,h2,h3,h4⟩:=h;simp only[List.cons.injEq,Value.slice.injEq,and_true] at he;obtain⟨⟨rfl,rfl,rfl⟩,⟨rfl,rfl,rfl⟩,rfl,rfl,rfl⟩:=he;exact⟨h3,rfl,h4⟩
def Z2u (x:Use) (m:Int):Use:=⟨x.q,x.w,x.f,m⟩
def Zbi (c:Crw) (us:List Use):Crw:=⟨c.qs,c.ms,us⟩
theorem Zn7 {w:World} {c:Crw} {qo mo uo:Option Addr} {qn mn un qc mc uc B:Nat} (h:ArgC w c [.slice qo qn qc,.slice mo mn mc,.slice uo un uc] B) {us:List Use} {xo:Option Addr} {xc n:Nat} (hu:Zal Zbv w xo us) (hn:n=us.length) (hl:n≤xc) (h9:us.length≤999):ArgC w (Zbi c us) [.slice qo qn qc,.slice mo mn mc,.slice xo n xc] B:=by
 obtain⟨⟨qo',qc',mo',mc',uo',uc',he,h1,h2,h3,h4⟩,htab,hok,hnu⟩:=h;simp only[List.cons.injEq,Value.slice.injEq,and_true] at he;obtain⟨⟨rfl,rfl,rfl⟩,⟨rfl,rfl,rfl⟩,-,-,-⟩:=he;exact⟨⟨_,_,_,_,_,_,by rw[hn];rfl,h1,h2,hu,by show us.length≤xc;omega⟩,htab,⟨hok.q,hok.m,hok.nq,hok.nm,by show us.length≤1000000;omega⟩,h9⟩
theorem Zsh (c:Crw):Zaq c=true↔c.qs.length≤128∧c.ms.length≤64∧c.us.length≤4096∧(∀ p∈c.qs,Zbs p=true)∧(∀ m∈c.ms,Zd9 m=true)∧∀ x∈c.us,Zc4 c.qs.length c.ms.length x=true:=by
 constructor
 ·exact Zat
 ·rintro⟨h1,h2,h3,h4,h5,h6⟩
  unfold Zaq;rw[decide_eq_true h1,decide_eq_true h2,decide_eq_true h3]
  have e1:c.qs.any (fun q=>!Zbs q)=false:=by rw[List.any_eq_false];intro q hq;rw[h4 q hq];decide
  have e2:c.ms.any (fun m=>!Zd9 m)=false:=by rw[List.any_eq_false];intro q hq;rw[h5 q hq];decide
  have e3:c.us.any (fun x=>!Zc4 c.qs.length c.ms.length x)=false:=by rw[List.any_eq_false];intro q hq;rw[h6 q hq];decide
  rw[e1,e2,e3];rfl
theorem Zpf {c:Crw} {us:List Use} (h:Zaq c=true) (hl:us.length≤4096) (hu:∀ x∈us,Zc4 c.qs.length c.ms.length x=true):Zaq (Zbi c us)=true:=by
 obtain⟨h1,h2,h3,h4,h5,h6⟩:=Zat h;exact (Zsh _).2 ⟨h1,h2,hl,h4,h5,hu⟩
def Z2v (c:Crw) (u:Nat) (m:Int):Crw:=Zbi c (c.us.set u (Z2u (c.us.getD u ⟨0,0,0,0⟩) m))
theorem Z0o (c:Crw) (H:List (List Bool)) (x:Use) {k:Nat} (hk:k<c.ms.length):(Zdx c H x).getD k false=Zza c H x k:=by
 unfold Zdx;rw[List.getD_eq_getElem?_getD,List.getElem?_map,List.getElem?_range hk];rfl
theorem Zv9 {c:Crw} (us:List Use) {v:Nat} (hv:v<us.length) {k:Nat} (hk:k<c.ms.length):(Zau (Zbi c us) (Zay (Zbi c us))).can v k=Zza c (Zak c) (us.getD v ⟨0,0,0,0⟩) k:=by
 show ((us.map (Zdx c (Zak c))).getD v []).getD k false=_
 have h1:(us.map (Zdx c (Zak c))).getD v []=Zdx c (Zak c) us[v]:=by rw[List.getD_eq_getElem?_getD,List.getElem?_map,List.getElem?_eq_getElem hv];rfl
 have h2:us.getD v ⟨0,0,0,0⟩=us[v]:=by rw[List.getD_eq_getElem?_getD,List.getElem?_eq_getElem hv];rfl
 rw[h1,h2,Z0o c _ _ hk]
theorem Zwa {c:Crw} {C:List (List Bool)} (hok:ReckOk c C):∀ v,v<(Zau c C).U→(Zau c C).win v<16:=fun v hv=>by
 obtain⟨g1,g2,g3⟩:=Zo7 hok hv;omega
theorem Zyt {T:Tbl} (hw:∀ v,v<T.U→T.win v<16) (h:(Zep T).2=0):Zhv T≤1152921504606846976∧Zep T=(Zhv T,0):=by
 have hm:Zbf=1152921504606846977:=rfl;unfold Zep at h ⊢
 split at h
 ·cases h
 ·rename_i h2
  rw[if_neg h2];rw[Zs1 T hw,hm] at *
  split at h
  ·cases h
  ·rename_i h3
   rw[if_neg h3];refine⟨by omega,?_⟩;rw[Nat.min_eq_right (by omega)]
theorem Z0p {T:Tbl} (hw:∀ v,v<T.U→T.win v<16) (hg:∀ k,k<16→(Zbw T k).length≤12) (h:Zhv T≤1152921504606846976):Zep T=(Zhv T,0):=by
 have hm:Zbf=1152921504606846977:=rfl;unfold Zep
 rw[if_neg (fun h2=>by
  obtain⟨k,hk,h3⟩:=List.any_eq_true.1 h2;have:=hg k (List.mem_range.1 hk);simp at h3
  omega),Zs1 T hw,hm,Nat.min_eq_right (by omega),if_neg (by omega)]
end
section
open Go.RowKit Go.Sort Go.Maps
def Zdo (wd:Int) (oth:Bool) (x:Use):Bool:=((x.w==wd) != oth)
def Zar (us:List Use) (wd:Int) (oth:Bool):List Use:=us.filter (Zdo wd oth)
theorem Zeo {α:Type} (p:α→Bool) {l:List α} {k:Nat} {x:α} (h:l[k]?=some x):(l.take (k+1)).filter p=if p x=true then (l.take k).filter p++[x] else (l.take k).filter p:=by
 rw[List.take_add_one,h,List.filter_append];by_cases e:p x=true
 ·rw[if_pos e];simp[e]
 ·rw[if_neg e];simp[e]
def Z2g (us:List Use) (p:Use→Bool) (w1 wr:World) (ob ix:Nat) (qo:Option Addr) (qn qc:Nat) (mo:Option Addr) (mn mc:Nat):Prop:=∃ n cap so,n≤ix∧((us.take ix).filter p).length=n∧Zaf wr ob 26 [.slice qo qn qc,.slice mo mn mc,.slice so n cap]∧OwnK wr (ob+1) 4 n cap (((us.take ix).filter p).flatMap Zbv) so∧ob+1≤wr.heap.size∧Below w1.heap.size w1 wr
theorem Zi5 (i:Nat) (h:Zll 8 i):i=0∨i=1∨i=2∨i=3∨i=4∨i=5∨i=6∨i=7∨i=9:=by unfold Zll at h;omega
def auF (CB OB ix gu ou un uc n cap:Nat) (so:Option Addr) (u0 u1 u2 u3:Int) (i:Nat) (W:World) (v:Value):Prop:=match i with
 | 0=>v = .pointer (some ⟨OB,2,none⟩)
 | 1=>v = .slice so n cap
 | 2=>v = .pointer (some ⟨CB,2,none⟩)
 | 3=>v = .slice (some ⟨gu,ou,none⟩) un uc
 | 4=>v = .int .i64 (ix:Nat)
 | 5=>v = .pointer (some ⟨gu,ou+ix*4,none⟩)
 | 6=>v = .agg #[.int .i64 u0,.int .i64 u1,.int .i64 u2,.int .i64 u3]
 | 7=>∃ V,v = .slice (some ⟨V,0,none⟩) 1 1∧Zaf W V 39 [.int .i64 u0,.int .i64 u1,.int .i64 u2,.int .i64 u3]
 | 8=>True
 | 9=>v = .pointer (some ⟨OB,2,none⟩)
 | _=>True
theorem Zqz (CB OB ix gu ou un uc n cap:Nat) (so:Option Addr) (u0 u1 u2 u3:Int):∀ i w w' v,auF CB OB ix gu ou un uc n cap so u0 u1 u2 u3 i w v→Below w.heap.size w w'→auF CB OB ix gu ou un uc n cap so u0 u1 u2 u3 i w' v:=by
 intro i w w' v h hb
 match i with
 | 0=>exact h
 | 1=>exact h
 | 2=>exact h
 | 3=>exact h
 | 4=>exact h
 | 5=>exact h
 | 6=>exact h
 | 7=>obtain⟨V,h1,h2⟩:=h;exact⟨V,h1,h2.step hb⟩
 | 8=>trivial
 | 9=>exact h
 | k+10=>trivial
theorem Zsi (w:World) (c:Crw) (cs:List Value) (wd:Int) (hcw:Zf9 w c cs) (hn:c.us.length≤999) :
  Calls Tryz.prog 21 #[.agg cs.toArray,.int .i64 wd,.bool false] w fun e w'=>(∃ so cap,e = .returned (.agg (cs.set 2 (.slice so (Zar c.us wd false).length cap)).toArray)∧Zal Zbv w' so (Zar c.us wd false)∧(Zar c.us wd false).length≤cap)∧Below w.heap.size w w':=by
 have HUF0:=ħ (fun W (hW:Below w.heap.size w W)=>hcw.below hW);obtain⟨qo,qc,mo,mc,uo,uc,rfl,-⟩:=hcw;obtain⟨us,hus⟩:∃ l,c.us=l:=⟨_,rfl⟩;have HUG:=ħ (fun W (hW:Below w.heap.size w W)=>(Zv8 (HUF0.o W hW)).1);rw[hus] at HUG hn ⊢;obtain⟨un,hun⟩:∃ n,us.length=n:=⟨_,rfl⟩;have HUL:Hid (us.length=un):=ħ hun;rw[hun] at hn ⊢;clear hun;generalize c.qs.length=qn at *;generalize c.ms.length=mn at *;clear hus;have HGT:=ħ (fun k (hk:k<us.length)=>(⟨_,List.getElem?_eq_getElem hk⟩:∃ x,us[k]?=some x));rw[HUL.o] at HGT;have HNX:=ħ (fun k x (h:us[k]?=some x)=>Zeo (Zdo wd false) h);have HALL:Hid ((us.take un).filter (Zdo wd false)=Zar us wd false):=ħ (by rw[← HUL.o,List.take_length];rfl);have HPK:Hid (∀ x,((x.w==wd) != false)=Zdo wd false x):=ħ (fun x=>rfl);have X1:=ħ (Zaf.new w 26 [.slice qo qn qc,.slice mo mn mc,.slice uo un uc]);have Z1:=ħ (Zaf.new (w.alloc (.cells #[.slice qo qn qc,.slice mo mn mc,.slice uo un uc] 26)) 26 [.slice none 0 0,.slice none 0 0,.slice none 0 0]);have b1:=(Below.refl w.heap.size w).alloc (Nat.le_refl _) (.cells #[.slice qo qn qc,.slice mo mn mc,.slice uo un uc] 26);have b3:=b1.alloc b1.size (.cells #[.slice none 0 0,.slice none 0 0,.slice none 0 0] 26)
 have e1:(w.alloc (.cells #[.slice qo qn qc,.slice mo mn mc,.slice uo un uc] 26)).heap.size=w.heap.size+1:=by rw[World.size_alloc]
 have Z1:Hid (Zaf ((w.alloc (.cells #[.slice qo qn qc,.slice mo mn mc,.slice uo un uc] 26)).alloc (.cells #[.slice none 0 0,.slice none 0 0,.slice none 0 0] 26)) (w.heap.size+1) 26 [.slice none 0 0,.slice none 0 0,.slice none 0 0]):=ħ (by
  have:=Z1.o
  rw[e1] at this;exact this)
 have X1:Hid (Zaf ((w.alloc (.cells #[.slice qo qn qc,.slice mo mn mc,.slice uo un uc] 26)).alloc (.cells #[.slice none 0 0,.slice none 0 0,.slice none 0 0] 26)) w.heap.size 26 [.slice qo qn qc,.slice mo mn mc,.slice uo un uc]):=ħ (X1.o.step ((Below.refl _ _).alloc (Nat.le_refl _) (.cells #[.slice none 0 0,.slice none 0 0,.slice none 0 0] 26)));have B1:=ħ b3;clear b1 b3 e1
 go_enter Tryz.func21,Tryz.ntmps21
 go_upto_region 1 with (fail)
 generalize (w.alloc (.cells #[.slice qo qn qc,.slice mo mn mc,.slice uo un uc] 26)).alloc (.cells #[.slice none 0 0,.slice none 0 0,.slice none 0 0] 26)=w1 at *;have L1:=ħ (Below.refl w1.heap.size w1);have O1:Hid (Zaf (w1.alloc (.cells #[.slice none 0 0,.slice none 0 0,.slice none 0 0] 26)) w1.heap.size 26 [.slice none 0 0,.slice none 0 0,.slice none 0 0]):=ħ (heap_alloc_new w1 _);have BO:=ħ ((Below.refl w1.heap.size w1).alloc (Nat.le_refl _) (.cells #[.slice none 0 0,.slice none 0 0,.slice none 0 0] 26))
 go_upto_region 2 with (first | (refine wpList_load_row rfl 26 (.tmp 3) rfl (w.heap.size) ?xl9 26 #[.slice qo qn qc,.slice mo mn mc,.slice uo un uc] (0,0) _ X1.o Tryz.underlying26 rfl (Zaw _ _ _) ?_;(case xl9=>rfl)) | (refine Zan rfl 26 (.tmp 7) (.tmp 9) rfl w1.heap.size #[.slice qo qn qc,.slice mo mn mc,.slice uo un uc] (by rfl) (by rfl) 26 _ O1.o (Zaw _ _ _) rfl (by simp[Value.oneCell']) ?_;intro w9 s9 u9;have S9:=ħ s9;have U9:=ħ u9;clear s9 u9))
 have A9:=ħ (U9.o.below BO.o (Nat.le_refl _));have S9:Hid (Zaf w9 w1.heap.size 26 [.slice qo qn qc,.slice mo mn mc,.slice uo un uc]):=ħ S9.o;have X9:=ħ (X1.o.step A9.o);have L9:=ħ (L1.o.trans (A9.o.mono L1.o.size));have Z9:Hid (w1.heap.size<w9.heap.size):=ħ S9.o.lt;clear O1 BO U9;obtain⟨ob,hob⟩:∃ n,w1.heap.size=n:=⟨_,rfl⟩;have HOB:=ħ hob;rw[hob] at S9 Z9 ⊢;have s2:=S9.o.cell 2 _ rfl;have f2:=S9.o.warm 2;have SA:Hid (Zaf (w9.setCell ⟨ob,2,none⟩ (.slice none 0 0)) ob 26 [.slice qo qn qc,.slice mo mn mc,.slice none 0 0]):=ħ (S9.o.set 2 _);have LA:=ħ (A9.o.setCell (p:=⟨ob,2,none⟩) (by show w1.heap.size≤ob;rw[HOB.o];exact Nat.le_refl _) (.slice none 0 0));have KA:Hid (ob+1≤(w9.setCell ⟨ob,2,none⟩ (.slice none 0 0)).heap.size):=ħ SA.o.lt;have HX1:=ħ X1.o.lt;have HZ1:=ħ Z1.o.lt;have HXW:=ħ (fun W (hW:Below w1.heap.size w1 W)=>X1.o.step hW);have HZW:=ħ (fun W (hW:Below w1.heap.size w1 W)=>Z1.o.step hW);have HBW:=ħ (fun W (hW:Below w1.heap.size w1 W)=>B1.o.trans (hW.mono B1.o.size));have HOW:Hid (ob<ob+1):=ħ (Nat.lt_succ_self _);have HWW:Hid (w1.heap.size≤ob+1):=ħ (by rw[HOB.o];omega);have HOO:Hid (w1.heap.size≤ob):=ħ (by rw[HOB.o];exact Nat.le_refl _);have HOE:=HOB;clear hob HOB
 go_upto_region 4 with (fail)
 clear s2 f2 S9 L9 X9 A9 L1 Z9 X1 Z1 B1;generalize w9.setCell ⟨ob,2,none⟩ (.slice none 0 0)=wa at *
 go_wp2_with fail
 go_loopw [8] (fun iv wr=>∃ (ix:Nat),iv = .int .i64 ix∧ix≤un∧Hid (Z2g us (Zdo wd false) w1 wr ob ix qo qn qc mo mn mc)) (fun i _=>(un-intOf i).toNat)
 case atStart=>exact⟨0,rfl,by omega,ħ ⟨0,0,none,Nat.le_refl _,rfl,SA.o,.nil rfl rfl rfl,KA.o,LA.o⟩⟩
 case round =>
  clear SA KA LA;obtain⟨ix,rfl,hi,HRR⟩:=hrel;obtain⟨n,cap,so,hnx,hN,hS,hO,hK,hL⟩:=HRR.o;have HN:=ħ hN;have SR:=ħ hS;have OR:=ħ hO;have KR:=ħ hK;have LR:=ħ hL;clear hN hS hO hK hL HRR;have e2:IntKind.i64.wrap ((ix:Int)+1)=((ix+1:Nat):Int):=IntWalk.i64_in _ (by omega);have XR:=ħ (HXW.o wr LR.o);have cu:=XR.o.cell 2 _ rfl;by_cases hin:ix<un
  ·have ii:(ix:Int)<un:=by omega
   obtain⟨x,hx⟩:=HGT.o ix hin;have HT:=ħ (HNX.o ix x hx);obtain⟨gu,ou,huo,hgu,hcu⟩:=(HUG.o wr (HBW.o wr LR.o)).at Za2 ix x hx;have HUC:=ħ (fun W (hW:Below wr.heap.size wr W)=>(⟨(hW.cell (p:=⟨gu,ou+ix*4,none⟩) hgu).trans (hcu 0 _ rfl),(hW.cell (p:=⟨gu,ou+ix*4+1,none⟩) hgu).trans (hcu 1 _ rfl),(hW.cell (p:=⟨gu,ou+ix*4+2,none⟩) hgu).trans (hcu 2 _ rfl),(hW.cell (p:=⟨gu,ou+ix*4+3,none⟩) hgu).trans (hcu 3 _ rfl)⟩:W.cell? ⟨gu,ou+ix*4,none⟩=some (.int .i64 x.q)∧W.cell? ⟨gu,ou+ix*4+1,none⟩=some (.int .i64 x.w)∧W.cell? ⟨gu,ou+ix*4+2,none⟩=some (.int .i64 x.f)∧W.cell? ⟨gu,ou+ix*4+3,none⟩=some (.int .i64 x.h)));have y1:=(HUC.o wr (Below.refl _ _)).2.1;have HUO:=ħ huo;rw[huo] at cu;obtain⟨u0,u1,u2,u3⟩:=x;obtain⟨eb,heb⟩:∃ b,(u1==wd)=b:=⟨_,rfl⟩
   have hpk:Zdo wd false ⟨u0,u1,u2,u3⟩=eb:=by unfold Zdo;show ((u1==wd) != false)=_;rw[heb];cases eb<;>rfl
   rw[hpk] at HT;have HCB:=ħ (fun W (hW:Below wr.heap.size wr W)=>XR.o.step hW);have HOB:=ħ (fun W (hW:Below wr.heap.size wr W)=>SR.o.step hW);have HII:=ħ ii;clear hx huo hgu hcu hpk
   cases eb with
   | false =>
    go_wp2_with fail
    go_roundw
    case rel=>exact⟨ix+1,by go_num,by omega,ħ ⟨n,cap,so,by omega,by rw[HT.o,if_neg (by decide)];exact HN.o,SR.o,by rw[HT.o,if_neg (by decide)];exact OR.o,KR.o,LR.o⟩⟩
    case measure=>simp only[intOf];omega
   | true =>
    go_upto_region 7 with (fail)
    clear y1 cu heb ii;refine Zfk 8 (auF (w.heap.size) ob ix gu ou un uc n cap so u0 u1 u2 u3) (by kernel_rfl) rfl (Zqz (w.heap.size) ob ix gu ou un uc n cap so u0 u1 u2 u3) (Zpz (by kernel_rfl)) (Zs9 (by kernel_rfl)) (Za4 (by kernel_rfl)) (Zhx (by kernel_rfl)) (Zhx (by kernel_rfl)) ?hs ?hA ?hB
    case hs =>
     intro i o hin hi listed a' w' H hsn hl2;have hl3:=Zap hl2;have hb:=ħ H.below;have s7:=hsn 7 (Zd7 (by kernel_rfl));have s3:=hsn 3 (Zd7 (by kernel_rfl));have s8:=hsn 8 (Zd7 (by kernel_rfl));have hdn:=H.done;have hdf:=H.defers;have hts:=H.tsize;clear hl2 H hsn;obtain⟨t',df⟩:=a';obtain⟨f',rfl⟩:=Z1b t' hts;have hdf':df=[]:=hdf;subst hdf';have gs7:f' 7 = .pointer (some ⟨ob,0,none⟩):=s7;have gs3:f' 3 = .pointer (some ⟨w.heap.size,0,none⟩):=s3;have gs8:f' 8 = .int .i64 (ix:Nat):=s8;clear s7 s3 s8;clear hdf hts;have hcases:=Zi5 i hin;clear hin;rcases hcases with rfl | rfl | rfl | rfl | rfl | rfl | rfl | rfl | rfl
     ·obtain rfl:=Option.some.inj hi
      clear hdn hl3;rw[gs7];clear gs7 gs3 gs8;refine Zab rfl ?_
      go_wp2_with fail
      exact Zaa ⟨_,rfl,Below.refl _ _,rfl⟩
     ·obtain rfl:=Option.some.inj hi
      have dv0:f' 28 = .pointer (some ⟨ob,2,none⟩):=hdn 0 _ 28 rfl (hl3 0 (by rfl)) rfl;clear hdn hl3;rw[dv0];clear dv0 gs7 gs3 gs8;have cc:=(HOB.o w' hb.o).cell 2 _ rfl;refine Zab rfl ?_
      go_wp2_with fail
      exact Zaa ⟨_,rfl,Below.refl _ _,rfl⟩
     ·obtain rfl:=Option.some.inj hi
      clear hdn hl3;rw[gs3];clear gs7 gs3 gs8;refine Zab rfl ?_
      go_wp2_with fail
      exact Zaa ⟨_,rfl,Below.refl _ _,rfl⟩
     ·obtain rfl:=Option.some.inj hi
      have dv2:f' 30 = .pointer (some ⟨w.heap.size,2,none⟩):=hdn 2 _ 30 rfl (hl3 2 (by rfl)) rfl;clear hdn hl3;rw[dv2];clear dv2 gs7 gs3 gs8;have cc:=(HCB.o w' hb.o).cell 2 _ rfl;rw[HUO.o] at cc;refine Zab rfl ?_
      go_wp2_with fail
      exact Zaa ⟨_,rfl,Below.refl _ _,rfl⟩
     ·obtain rfl:=Option.some.inj hi
      clear hdn hl3;rw[gs8];clear gs7 gs3 gs8;refine Zab rfl ?_
      go_wp2_with fail
      exact Zaa ⟨_,rfl,Below.refl _ _,rfl⟩
     ·obtain rfl:=Option.some.inj hi
      have dv3:f' 31 = .slice (some ⟨gu,ou,none⟩) un uc:=hdn 3 _ 31 rfl (hl3 3 (by rfl)) rfl;have dv4:f' 32 = .int .i64 (ix:Nat):=hdn 4 _ 32 rfl (hl3 4 (by rfl)) rfl;clear hdn hl3;rw[dv3,dv4];clear dv3 dv4 gs7 gs3 gs8;have ii:=HII.o;refine Zab rfl ?_
      go_wp2_with fail
      exact Zaa ⟨_,rfl,Below.refl _ _,rfl⟩
     ·obtain rfl:=Option.some.inj hi
      have dv5:f' 33 = .pointer (some ⟨gu,ou+ix*4,none⟩):=hdn 5 _ 33 rfl (hl3 5 (by rfl)) rfl;clear hdn hl3;rw[dv5];clear dv5 gs7 gs3 gs8;have y0:=(HUC.o w' hb.o).1;have y1:=(HUC.o w' hb.o).2.1;have y2:=(HUC.o w' hb.o).2.2.1;have y3:=(HUC.o w' hb.o).2.2.2;refine Zab rfl ?_
      go_wp2_with fail
      exact Zaa ⟨_,rfl,Below.refl _ _,rfl⟩
     ·obtain rfl:=Option.some.inj hi
      have dv6:f' 34 = .agg #[.int .i64 u0,.int .i64 u1,.int .i64 u2,.int .i64 u3]:=hdn 6 _ 34 rfl (hl3 6 (by rfl)) rfl;clear hdn hl3;rw[dv6];clear dv6 gs7 gs3 gs8;have bx:=(Below.refl w'.heap.size w').alloc (Nat.le_refl _) (.cells #[.int .i64 u0,.int .i64 u1,.int .i64 u2,.int .i64 u3] 39);have HV:Hid (Zaf (w'.alloc (.cells #[.int .i64 u0,.int .i64 u1,.int .i64 u2,.int .i64 u3] 39)) w'.heap.size 39 [.int .i64 u0,.int .i64 u1,.int .i64 u2,.int .i64 u3]):=ħ (heap_alloc_new _ _);have BX:=ħ bx;clear bx;refine Zab rfl ?_
      go_wp2_with fail
      exact Zaa ⟨_,rfl,BX.o,w'.heap.size,rfl,HV.o⟩
     ·obtain rfl:=Option.some.inj hi
      clear hdn hl3;rw[gs7];clear gs7 gs3 gs8;refine Zab rfl ?_
      go_wp2_with fail
      exact Zaa ⟨_,rfl,Below.refl _ _,rfl⟩
    case hA =>
     intro listed a' w4 H hsn hall hstr;have hd1:auF (w.heap.size) ob ix gu ou un uc n cap so u0 u1 u2 u3 1 w4 (a'.tmps.getD 29 undef):=H.done 1 _ 29 rfl (hall 1 (by decide)) rfl;have hd7:auF (w.heap.size) ob ix gu ou un uc n cap so u0 u1 u2 u3 7 w4 (a'.tmps.getD 35 undef):=H.done 7 _ 35 rfl (hall 7 (by decide)) rfl;have hd9:auF (w.heap.size) ob ix gu ou un uc n cap so u0 u1 u2 u3 9 w4 (a'.tmps.getD 37 undef):=H.done 9 _ 37 rfl hstr rfl;have hb4:=ħ H.below;have hact:=H.actX hsn [28,29,30,31,32,33,34,35,37] (Zlm (by kernel_rfl));clear H hall hsn hstr;simp only[List.foldl_cons,List.foldl_nil] at hact;generalize a'.tmps.getD 28 undef=z28 at *;generalize a'.tmps.getD 29 undef=z29 at *;generalize a'.tmps.getD 30 undef=z30 at *;generalize a'.tmps.getD 31 undef=z31 at *;generalize a'.tmps.getD 32 undef=z32 at *;generalize a'.tmps.getD 33 undef=z33 at *;generalize a'.tmps.getD 34 undef=z34 at *;generalize a'.tmps.getD 35 undef=z35 at *;generalize a'.tmps.getD 37 undef=z37 at *;subst hact;have e1:z29 = .slice so n cap:=hd1;subst e1;clear hd1;obtain⟨V,e7,hV⟩:=hd7;subst e7;have e9:z37 = .pointer (some ⟨ob,2,none⟩):=hd9;subst e9;clear hd9;simp only[Act.put,List.setIfInBounds_toArray,List.set_cons_succ,List.set_cons_zero];have HV:=ħ hV;have S4:=ħ (SR.o.step hb4.o);have O4:=ħ (OR.o.below hb4.o);have L4:=ħ (LR.o.trans (hb4.o.mono LR.o.size));have K4:Hid (ob+1≤w4.heap.size):=ħ (Nat.le_trans KR.o hb4.o.size);clear hV hb4 HOB HCB HUC SR OR LR;refine (Zab rfl ?_);refine Zlv 24 39 (.agg #[.int .i64 0,.int .i64 0,.int .i64 0,.int .i64 0]) 4 32 Tryz.underlying24 Zdj rfl (by omega) (by omega) w4 (ob+1) rfl (.tmp 29) (.tmp 35) rfl so cap n (((us.take ix).filter (Zdo wd false)).flatMap Zbv) ?r1A O4.o K4.o V 1 1 [.int .i64 u0,.int .i64 u1,.int .i64 u2,.int .i64 u3] 39 ?r2A HV.o rfl (by omega) ?r3A (by omega) ?_
     case r1A=>rfl
     case r2A=>rfl
     case r3A=>simp[Value.oneCell']
     intro g6 off6 c6 wq o6 b6;have O6:Hid (OwnK wq (ob+1) 4 (n+1) c6 ((((us.take ix).filter (Zdo wd false))++[(⟨u0,u1,u2,u3⟩:Use)]).flatMap Zbv) (some ⟨g6,off6,none⟩)):=ħ (by rw[List.flatMap_append];exact o6);have S6:=ħ (S4.o.below b6 HOW.o);have L6:=ħ (L4.o.trans (b6.mono HWW.o));have HG6:Hid (ob+1≤g6):=ħ (O6.o.blk_lt rfl).1;clear o6 b6 S4 L4 O4 HV K4;have c8:=S6.o.cell 2 _ rfl;have f8:=S6.o.warm 2;have SZ:Hid (Zaf (wq.setCell ⟨ob,2,none⟩ (.slice (some ⟨g6,off6,none⟩) (n+1) c6)) (ob) 26 [.slice qo qn qc,.slice mo mn mc,.slice (some ⟨g6,off6,none⟩) (n+1) c6]):=ħ (S6.o.set 2 _)
     have OZ:=ħ (O6.o.setCell (p:=⟨ob,2,none⟩) (.slice (some ⟨g6,off6,none⟩) (n+1) c6) (fun e=>by
      have e:g6=ob:=Option.some.inj e;have:=HG6.o;have:=HOW.o
      omega))
     have LZ:=ħ (L6.o.setCell (p:=⟨ob,2,none⟩) HOO.o (.slice (some ⟨g6,off6,none⟩) (n+1) c6));have KZ:Hid (ob+1≤(wq.setCell ⟨ob,2,none⟩ (.slice (some ⟨g6,off6,none⟩) (n+1) c6)).heap.size):=ħ (Nat.le_trans HG6.o (Nat.le_of_lt (OZ.o.blk_lt rfl).2));clear S6 O6 L6
     go_wp2_with fail
     refine Zaa (Zas (Zab rfl ?_))
     go_wp2_with fail
     refine Zaa (Zbp ?_);clear c8 f8;generalize wq.setCell ⟨ob,2,none⟩ (.slice (some ⟨g6,off6,none⟩) (n+1) c6)=wz at *
     go_wp2_with fail
     go_roundw
     case rel=>exact⟨ix+1,by go_num,by omega,ħ ⟨n+1,c6,some ⟨g6,off6,none⟩,by omega,by rw[HT.o,if_pos (by trivial),List.length_append,HN.o];rfl,SZ.o,by rw[HT.o,if_pos (by trivial)];exact OZ.o,KZ.o,LZ.o⟩⟩
     case measure=>simp only[intOf];omega
    case hB =>
     intro listed a' w4 H hsn hall;have hd1:auF (w.heap.size) ob ix gu ou un uc n cap so u0 u1 u2 u3 1 w4 (a'.tmps.getD 29 undef):=H.done 1 _ 29 rfl (hall 1 (by decide)) rfl;have hd7:auF (w.heap.size) ob ix gu ou un uc n cap so u0 u1 u2 u3 7 w4 (a'.tmps.getD 35 undef):=H.done 7 _ 35 rfl (hall 7 (by decide)) rfl;have hb4:=ħ H.below;have hact:=H.actX hsn [28,29,30,31,32,33,34,35,37] (Zlm (by kernel_rfl));clear H hall hsn;simp only[List.foldl_cons,List.foldl_nil] at hact;generalize a'.tmps.getD 28 undef=z28 at *;generalize a'.tmps.getD 29 undef=z29 at *;generalize a'.tmps.getD 30 undef=z30 at *;generalize a'.tmps.getD 31 undef=z31 at *;generalize a'.tmps.getD 32 undef=z32 at *;generalize a'.tmps.getD 33 undef=z33 at *;generalize a'.tmps.getD 34 undef=z34 at *;generalize a'.tmps.getD 35 undef=z35 at *;generalize a'.tmps.getD 37 undef=z37 at *;subst hact;have e1:z29 = .slice so n cap:=hd1;subst e1;clear hd1;obtain⟨V,e7,hV⟩:=hd7;subst e7;simp only[Act.put,List.setIfInBounds_toArray,List.set_cons_succ,List.set_cons_zero];have HV:=ħ hV;have S4:=ħ (SR.o.step hb4.o);have O4:=ħ (OR.o.below hb4.o);have L4:=ħ (LR.o.trans (hb4.o.mono LR.o.size));have K4:Hid (ob+1≤w4.heap.size):=ħ (Nat.le_trans KR.o hb4.o.size);clear hV hb4 HOB HCB HUC SR OR LR;refine Zas (Zab rfl ?_);refine Zlv 24 39 (.agg #[.int .i64 0,.int .i64 0,.int .i64 0,.int .i64 0]) 4 32 Tryz.underlying24 Zdj rfl (by omega) (by omega) w4 (ob+1) rfl (.tmp 29) (.tmp 35) rfl so cap n (((us.take ix).filter (Zdo wd false)).flatMap Zbv) ?r1B O4.o K4.o V 1 1 [.int .i64 u0,.int .i64 u1,.int .i64 u2,.int .i64 u3] 39 ?r2B HV.o rfl (by omega) ?r3B (by omega) ?_
     case r1B=>rfl
     case r2B=>rfl
     case r3B=>simp[Value.oneCell']
     intro g6 off6 c6 wq o6 b6;have O6:Hid (OwnK wq (ob+1) 4 (n+1) c6 ((((us.take ix).filter (Zdo wd false))++[(⟨u0,u1,u2,u3⟩:Use)]).flatMap Zbv) (some ⟨g6,off6,none⟩)):=ħ (by rw[List.flatMap_append];exact o6);have S6:=ħ (S4.o.below b6 HOW.o);have L6:=ħ (L4.o.trans (b6.mono HWW.o));have HG6:Hid (ob+1≤g6):=ħ (O6.o.blk_lt rfl).1;clear o6 b6 S4 L4 O4 HV K4;have c8:=S6.o.cell 2 _ rfl;have f8:=S6.o.warm 2;have SZ:Hid (Zaf (wq.setCell ⟨ob,2,none⟩ (.slice (some ⟨g6,off6,none⟩) (n+1) c6)) (ob) 26 [.slice qo qn qc,.slice mo mn mc,.slice (some ⟨g6,off6,none⟩) (n+1) c6]):=ħ (S6.o.set 2 _)
     have OZ:=ħ (O6.o.setCell (p:=⟨ob,2,none⟩) (.slice (some ⟨g6,off6,none⟩) (n+1) c6) (fun e=>by
      have e:g6=ob:=Option.some.inj e;have:=HG6.o;have:=HOW.o
      omega))
     have LZ:=ħ (L6.o.setCell (p:=⟨ob,2,none⟩) HOO.o (.slice (some ⟨g6,off6,none⟩) (n+1) c6));have KZ:Hid (ob+1≤(wq.setCell ⟨ob,2,none⟩ (.slice (some ⟨g6,off6,none⟩) (n+1) c6)).heap.size):=ħ (Nat.le_trans HG6.o (Nat.le_of_lt (OZ.o.blk_lt rfl).2));clear S6 O6 L6
     go_wp2_with fail
     refine Zaa (Zas (Zab rfl ?_))
     go_wp2_with fail
     refine Zaa (Zas (Zab rfl ?_))
     go_wp2_with fail
     refine Zaa (Zbp ?_);clear c8 f8;generalize wq.setCell ⟨ob,2,none⟩ (.slice (some ⟨g6,off6,none⟩) (n+1) c6)=wz at *
     go_wp2_with fail
     go_roundw
     case rel=>exact⟨ix+1,by go_num,by omega,ħ ⟨n+1,c6,some ⟨g6,off6,none⟩,by omega,by rw[HT.o,if_pos (by trivial),List.length_append,HN.o];rfl,SZ.o,by rw[HT.o,if_pos (by trivial)];exact OZ.o,KZ.o,LZ.o⟩⟩
     case measure=>simp only[intOf];omega
  ·have ii:¬ (ix:Int)<un:=by omega
   obtain rfl:un=ix:=by omega
   have ZR:=ħ (HZW.o wr LR.o)
   go_wp2_with (first | (refine wpList_load_row rfl 26 (.tmp 7) rfl (ob) ?yy1 26 #[.slice qo qn qc,.slice mo mn mc,.slice so n cap] (0,0) _ SR.o Tryz.underlying26 rfl (Zaw _ _ _) ?_;(case yy1=>rfl)) | (refine Zan rfl 26 (.tmp 6) (.tmp 38) rfl (w.heap.size+1) #[.slice qo qn qc,.slice mo mn mc,.slice so n cap] (by rfl) (by rfl) 26 _ ZR.o (Zaw _ _ _) rfl (by simp[Value.oneCell']) ?_;intro w11 s11 u11;have S11:=ħ s11;have U11:=ħ u11;clear s11 u11))
   have HRS:Hid ((Zar us wd false).length=n):=ħ (by rw[← HALL.o];exact HN.o);rw[HRS.o];refine bodyPost_ret (results_cell_row (p:=6) (by kernel_rfl) _ _ (w.heap.size+1) 26 #[.slice qo qn qc,.slice mo mn mc,.slice so n cap] (0,0) _ rfl S11.o Tryz.underlying26 rfl (Zaw _ _ _)) rfl ⟨⟨so,cap,rfl,?_,OR.o.len_le.1⟩,U11.o.below (HBW.o wr LR.o) (by omega)⟩;rw[← HALL.o]
   exact ((OR.o.upd U11.o (fun e=>by
    have h1:=(OR.o.blk_lt e).1;have h2:=HZ1.o;have h3:=HOE.o
    omega)).flatR Za2 HN.o.symm)
theorem Zwb (w:World) (c:Crw) (cs:List Value) (wd:Int) (hcw:Zf9 w c cs) (hn:c.us.length≤999) :
  Calls Tryz.prog 21 #[.agg cs.toArray,.int .i64 wd,.bool true] w fun e w'=>(∃ so cap,e = .returned (.agg (cs.set 2 (.slice so (Zar c.us wd true).length cap)).toArray)∧Zal Zbv w' so (Zar c.us wd true)∧(Zar c.us wd true).length≤cap)∧Below w.heap.size w w':=by
 have HUF0:=ħ (fun W (hW:Below w.heap.size w W)=>hcw.below hW);obtain⟨qo,qc,mo,mc,uo,uc,rfl,-⟩:=hcw;obtain⟨us,hus⟩:∃ l,c.us=l:=⟨_,rfl⟩;have HUG:=ħ (fun W (hW:Below w.heap.size w W)=>(Zv8 (HUF0.o W hW)).1);rw[hus] at HUG hn ⊢;obtain⟨un,hun⟩:∃ n,us.length=n:=⟨_,rfl⟩;have HUL:Hid (us.length=un):=ħ hun;rw[hun] at hn ⊢;clear hun;generalize c.qs.length=qn at *;generalize c.ms.length=mn at *;clear hus;have HGT:=ħ (fun k (hk:k<us.length)=>(⟨_,List.getElem?_eq_getElem hk⟩:∃ x,us[k]?=some x));rw[HUL.o] at HGT;have HNX:=ħ (fun k x (h:us[k]?=some x)=>Zeo (Zdo wd true) h);have HALL:Hid ((us.take un).filter (Zdo wd true)=Zar us wd true):=ħ (by rw[← HUL.o,List.take_length];rfl);have HPK:Hid (∀ x,((x.w==wd) != true)=Zdo wd true x):=ħ (fun x=>rfl);have X1:=ħ (Zaf.new w 26 [.slice qo qn qc,.slice mo mn mc,.slice uo un uc]);have Z1:=ħ (Zaf.new (w.alloc (.cells #[.slice qo qn qc,.slice mo mn mc,.slice uo un uc] 26)) 26 [.slice none 0 0,.slice none 0 0,.slice none 0 0]);have b1:=(Below.refl w.heap.size w).alloc (Nat.le_refl _) (.cells #[.slice qo qn qc,.slice mo mn mc,.slice uo un uc] 26);have b3:=b1.alloc b1.size (.cells #[.slice none 0 0,.slice none 0 0,.slice none 0 0] 26)
 have e1:(w.alloc (.cells #[.slice qo qn qc,.slice mo mn mc,.slice uo un uc] 26)).heap.size=w.heap.size+1:=by rw[World.size_alloc]
 have Z1:Hid (Zaf ((w.alloc (.cells #[.slice qo qn qc,.slice mo mn mc,.slice uo un uc] 26)).alloc (.cells #[.slice none 0 0,.slice none 0 0,.slice none 0 0] 26)) (w.heap.size+1) 26 [.slice none 0 0,.slice none 0 0,.slice none 0 0]):=ħ (by
  have:=Z1.o
  rw[e1] at this;exact this)
 have X1:Hid (Zaf ((w.alloc (.cells #[.slice qo qn qc,.slice mo mn mc,.slice uo un uc] 26)).alloc (.cells #[.slice none 0 0,.slice none 0 0,.slice none 0 0] 26)) w.heap.size 26 [.slice qo qn qc,.slice mo mn mc,.slice uo un uc]):=ħ (X1.o.step ((Below.refl _ _).alloc (Nat.le_refl _) (.cells #[.slice none 0 0,.slice none 0 0,.slice none 0 0] 26)));have B1:=ħ b3;clear b1 b3 e1
 go_enter Tryz.func21,Tryz.ntmps21
 go_upto_region 1 with (fail)
 generalize (w.alloc (.cells #[.slice qo qn qc,.slice mo mn mc,.slice uo un uc] 26)).alloc (.cells #[.slice none 0 0,.slice none 0 0,.slice none 0 0] 26)=w1 at *;have L1:=ħ (Below.refl w1.heap.size w1);have O1:Hid (Zaf (w1.alloc (.cells #[.slice none 0 0,.slice none 0 0,.slice none 0 0] 26)) w1.heap.size 26 [.slice none 0 0,.slice none 0 0,.slice none 0 0]):=ħ (heap_alloc_new w1 _);have BO:=ħ ((Below.refl w1.heap.size w1).alloc (Nat.le_refl _) (.cells #[.slice none 0 0,.slice none 0 0,.slice none 0 0] 26))
 go_upto_region 2 with (first | (refine wpList_load_row rfl 26 (.tmp 3) rfl (w.heap.size) ?xl9 26 #[.slice qo qn qc,.slice mo mn mc,.slice uo un uc] (0,0) _ X1.o Tryz.underlying26 rfl (Zaw _ _ _) ?_;(case xl9=>rfl)) | (refine Zan rfl 26 (.tmp 7) (.tmp 9) rfl w1.heap.size #[.slice qo qn qc,.slice mo mn mc,.slice uo un uc] (by rfl) (by rfl) 26 _ O1.o (Zaw _ _ _) rfl (by simp[Value.oneCell']) ?_;intro w9 s9 u9;have S9:=ħ s9;have U9:=ħ u9;clear s9 u9))
 have A9:=ħ (U9.o.below BO.o (Nat.le_refl _));have S9:Hid (Zaf w9 w1.heap.size 26 [.slice qo qn qc,.slice mo mn mc,.slice uo un uc]):=ħ S9.o;have X9:=ħ (X1.o.step A9.o);have L9:=ħ (L1.o.trans (A9.o.mono L1.o.size));have Z9:Hid (w1.heap.size<w9.heap.size):=ħ S9.o.lt;clear O1 BO U9;obtain⟨ob,hob⟩:∃ n,w1.heap.size=n:=⟨_,rfl⟩;have HOB:=ħ hob;rw[hob] at S9 Z9 ⊢;have s2:=S9.o.cell 2 _ rfl;have f2:=S9.o.warm 2;have SA:Hid (Zaf (w9.setCell ⟨ob,2,none⟩ (.slice none 0 0)) ob 26 [.slice qo qn qc,.slice mo mn mc,.slice none 0 0]):=ħ (S9.o.set 2 _);have LA:=ħ (A9.o.setCell (p:=⟨ob,2,none⟩) (by show w1.heap.size≤ob;rw[HOB.o];exact Nat.le_refl _) (.slice none 0 0));have KA:Hid (ob+1≤(w9.setCell ⟨ob,2,none⟩ (.slice none 0 0)).heap.size):=ħ SA.o.lt;have HX1:=ħ X1.o.lt;have HZ1:=ħ Z1.o.lt;have HXW:=ħ (fun W (hW:Below w1.heap.size w1 W)=>X1.o.step hW);have HZW:=ħ (fun W (hW:Below w1.heap.size w1 W)=>Z1.o.step hW);have HBW:=ħ (fun W (hW:Below w1.heap.size w1 W)=>B1.o.trans (hW.mono B1.o.size));have HOW:Hid (ob<ob+1):=ħ (Nat.lt_succ_self _);have HWW:Hid (w1.heap.size≤ob+1):=ħ (by rw[HOB.o];omega);have HOO:Hid (w1.heap.size≤ob):=ħ (by rw[HOB.o];exact Nat.le_refl _);have HOE:=HOB;clear hob HOB
 go_upto_region 4 with (fail)
 clear s2 f2 S9 L9 X9 A9 L1 Z9 X1 Z1 B1;generalize w9.setCell ⟨ob,2,none⟩ (.slice none 0 0)=wa at *
 go_wp2_with fail
 go_loopw [8] (fun iv wr=>∃ (ix:Nat),iv = .int .i64 ix∧ix≤un∧Hid (Z2g us (Zdo wd true) w1 wr ob ix qo qn qc mo mn mc)) (fun i _=>(un-intOf i).toNat)
 case atStart=>exact⟨0,rfl,by omega,ħ ⟨0,0,none,Nat.le_refl _,rfl,SA.o,.nil rfl rfl rfl,KA.o,LA.o⟩⟩
 case round =>
  clear SA KA LA;obtain⟨ix,rfl,hi,HRR⟩:=hrel;obtain⟨n,cap,so,hnx,hN,hS,hO,hK,hL⟩:=HRR.o;have HN:=ħ hN;have SR:=ħ hS;have OR:=ħ hO;have KR:=ħ hK;have LR:=ħ hL;clear hN hS hO hK hL HRR;have e2:IntKind.i64.wrap ((ix:Int)+1)=((ix+1:Nat):Int):=IntWalk.i64_in _ (by omega);have XR:=ħ (HXW.o wr LR.o);have cu:=XR.o.cell 2 _ rfl;by_cases hin:ix<un
  ·have ii:(ix:Int)<un:=by omega
   obtain⟨x,hx⟩:=HGT.o ix hin;have HT:=ħ (HNX.o ix x hx);obtain⟨gu,ou,huo,hgu,hcu⟩:=(HUG.o wr (HBW.o wr LR.o)).at Za2 ix x hx;have HUC:=ħ (fun W (hW:Below wr.heap.size wr W)=>(⟨(hW.cell (p:=⟨gu,ou+ix*4,none⟩) hgu).trans (hcu 0 _ rfl),(hW.cell (p:=⟨gu,ou+ix*4+1,none⟩) hgu).trans (hcu 1 _ rfl),(hW.cell (p:=⟨gu,ou+ix*4+2,none⟩) hgu).trans (hcu 2 _ rfl),(hW.cell (p:=⟨gu,ou+ix*4+3,none⟩) hgu).trans (hcu 3 _ rfl)⟩:W.cell? ⟨gu,ou+ix*4,none⟩=some (.int .i64 x.q)∧W.cell? ⟨gu,ou+ix*4+1,none⟩=some (.int .i64 x.w)∧W.cell? ⟨gu,ou+ix*4+2,none⟩=some (.int .i64 x.f)∧W.cell? ⟨gu,ou+ix*4+3,none⟩=some (.int .i64 x.h)));have y1:=(HUC.o wr (Below.refl _ _)).2.1;have HUO:=ħ huo;rw[huo] at cu;obtain⟨u0,u1,u2,u3⟩:=x;obtain⟨eb,heb⟩:∃ b,(u1==wd)=b:=⟨_,rfl⟩
   have hpk:Zdo wd true ⟨u0,u1,u2,u3⟩=!eb:=by unfold Zdo;show ((u1==wd) != true)=_;rw[heb];cases eb<;>rfl
   rw[hpk] at HT;have HCB:=ħ (fun W (hW:Below wr.heap.size wr W)=>XR.o.step hW);have HOB:=ħ (fun W (hW:Below wr.heap.size wr W)=>SR.o.step hW);have HII:=ħ ii;clear hx huo hgu hcu hpk
   cases eb with
   | true =>
    go_wp2_with fail
    go_roundw
    case rel=>exact⟨ix+1,by go_num,by omega,ħ ⟨n,cap,so,by omega,by rw[HT.o,if_neg (by decide)];exact HN.o,SR.o,by rw[HT.o,if_neg (by decide)];exact OR.o,KR.o,LR.o⟩⟩
    case measure=>simp only[intOf];omega
   | false =>
    go_upto_region 7 with (fail)
    clear y1 cu heb ii;refine Zfk 8 (auF (w.heap.size) ob ix gu ou un uc n cap so u0 u1 u2 u3) (by kernel_rfl) rfl (Zqz (w.heap.size) ob ix gu ou un uc n cap so u0 u1 u2 u3) (Zpz (by kernel_rfl)) (Zs9 (by kernel_rfl)) (Za4 (by kernel_rfl)) (Zhx (by kernel_rfl)) (Zhx (by kernel_rfl)) ?hs ?hA ?hB
    case hs =>
     intro i o hin hi listed a' w' H hsn hl2;have hl3:=Zap hl2;have hb:=ħ H.below;have s7:=hsn 7 (Zd7 (by kernel_rfl));have s3:=hsn 3 (Zd7 (by kernel_rfl));have s8:=hsn 8 (Zd7 (by kernel_rfl));have hdn:=H.done;have hdf:=H.defers;have hts:=H.tsize;clear hl2 H hsn;obtain⟨t',df⟩:=a';obtain⟨f',rfl⟩:=Z1b t' hts;have hdf':df=[]:=hdf;subst hdf';have gs7:f' 7 = .pointer (some ⟨ob,0,none⟩):=s7;have gs3:f' 3 = .pointer (some ⟨w.heap.size,0,none⟩):=s3;have gs8:f' 8 = .int .i64 (ix:Nat):=s8;clear s7 s3 s8;clear hdf hts;have hcases:=Zi5 i hin;clear hin;rcases hcases with rfl | rfl | rfl | rfl | rfl | rfl | rfl | rfl | rfl
     ·obtain rfl:=Option.some.inj hi
      clear hdn hl3;rw[gs7];clear gs7 gs3 gs8;refine Zab rfl ?_
      go_wp2_with fail
      exact Zaa ⟨_,rfl,Below.refl _ _,rfl⟩
     ·obtain rfl:=Option.some.inj hi
      have dv0:f' 28 = .pointer (some ⟨ob,2,none⟩):=hdn 0 _ 28 rfl (hl3 0 (by rfl)) rfl;clear hdn hl3;rw[dv0];clear dv0 gs7 gs3 gs8;have cc:=(HOB.o w' hb.o).cell 2 _ rfl;refine Zab rfl ?_
      go_wp2_with fail
      exact Zaa ⟨_,rfl,Below.refl _ _,rfl⟩
     ·obtain rfl:=Option.some.inj hi
      clear hdn hl3;rw[gs3];clear gs7 gs3 gs8;refine Zab rfl ?_
      go_wp2_with fail
      exact Zaa ⟨_,rfl,Below.refl _ _,rfl⟩
     ·obtain rfl:=Option.some.inj hi
      have dv2:f' 30 = .pointer (some ⟨w.heap.size,2,none⟩):=hdn 2 _ 30 rfl (hl3 2 (by rfl)) rfl;clear hdn hl3;rw[dv2];clear dv2 gs7 gs3 gs8;have cc:=(HCB.o w' hb.o).cell 2 _ rfl;rw[HUO.o] at cc;refine Zab rfl ?_
      go_wp2_with fail
      exact Zaa ⟨_,rfl,Below.refl _ _,rfl⟩
     ·obtain rfl:=Option.some.inj hi
      clear hdn hl3;rw[gs8];clear gs7 gs3 gs8;refine Zab rfl ?_
      go_wp2_with fail
      exact Zaa ⟨_,rfl,Below.refl _ _,rfl⟩
     ·obtain rfl:=Option.some.inj hi
      have dv3:f' 31 = .slice (some ⟨gu,ou,none⟩) un uc:=hdn 3 _ 31 rfl (hl3 3 (by rfl)) rfl;have dv4:f' 32 = .int .i64 (ix:Nat):=hdn 4 _ 32 rfl (hl3 4 (by rfl)) rfl;clear hdn hl3;rw[dv3,dv4];clear dv3 dv4 gs7 gs3 gs8;have ii:=HII.o;refine Zab rfl ?_
      go_wp2_with fail
      exact Zaa ⟨_,rfl,Below.refl _ _,rfl⟩
     ·obtain rfl:=Option.some.inj hi
      have dv5:f' 33 = .pointer (some ⟨gu,ou+ix*4,none⟩):=hdn 5 _ 33 rfl (hl3 5 (by rfl)) rfl;clear hdn hl3;rw[dv5];clear dv5 gs7 gs3 gs8;have y0:=(HUC.o w' hb.o).1;have y1:=(HUC.o w' hb.o).2.1;have y2:=(HUC.o w' hb.o).2.2.1;have y3:=(HUC.o w' hb.o).2.2.2;refine Zab rfl ?_
      go_wp2_with fail
      exact Zaa ⟨_,rfl,Below.refl _ _,rfl⟩
     ·obtain rfl:=Option.some.inj hi
      have dv6:f' 34 = .agg #[.int .i64 u0,.int .i64 u1,.int .i64 u2,.int .i64 u3]:=hdn 6 _ 34 rfl (hl3 6 (by rfl)) rfl;clear hdn hl3;rw[dv6];clear dv6 gs7 gs3 gs8;have bx:=(Below.refl w'.heap.size w').alloc (Nat.le_refl _) (.cells #[.int .i64 u0,.int .i64 u1,.int .i64 u2,.int .i64 u3] 39);have HV:Hid (Zaf (w'.alloc (.cells #[.int .i64 u0,.int .i64 u1,.int .i64 u2,.int .i64 u3] 39)) w'.heap.size 39 [.int .i64 u0,.int .i64 u1,.int .i64 u2,.int .i64 u3]):=ħ (heap_alloc_new _ _);have BX:=ħ bx;clear bx;refine Zab rfl ?_
      go_wp2_with fail
      exact Zaa ⟨_,rfl,BX.o,w'.heap.size,rfl,HV.o⟩
     ·obtain rfl:=Option.some.inj hi
      clear hdn hl3;rw[gs7];clear gs7 gs3 gs8;refine Zab rfl ?_
      go_wp2_with fail
      exact Zaa ⟨_,rfl,Below.refl _ _,rfl⟩
    case hA =>
     intro listed a' w4 H hsn hall hstr;have hd1:auF (w.heap.size) ob ix gu ou un uc n cap so u0 u1 u2 u3 1 w4 (a'.tmps.getD 29 undef):=H.done 1 _ 29 rfl (hall 1 (by decide)) rfl;have hd7:auF (w.heap.size) ob ix gu ou un uc n cap so u0 u1 u2 u3 7 w4 (a'.tmps.getD 35 undef):=H.done 7 _ 35 rfl (hall 7 (by decide)) rfl;have hd9:auF (w.heap.size) ob ix gu ou un uc n cap so u0 u1 u2 u3 9 w4 (a'.tmps.getD 37 undef):=H.done 9 _ 37 rfl hstr rfl;have hb4:=ħ H.below;have hact:=H.actX hsn [28,29,30,31,32,33,34,35,37] (Zlm (by kernel_rfl));clear H hall hsn hstr;simp only[List.foldl_cons,List.foldl_nil] at hact;generalize a'.tmps.getD 28 undef=z28 at *;generalize a'.tmps.getD 29 undef=z29 at *;generalize a'.tmps.getD 30 undef=z30 at *;generalize a'.tmps.getD 31 undef=z31 at *;generalize a'.tmps.getD 32 undef=z32 at *;generalize a'.tmps.getD 33 undef=z33 at *;generalize a'.tmps.getD 34 undef=z34 at *;generalize a'.tmps.getD 35 undef=z35 at *;generalize a'.tmps.getD 37 undef=z37 at *;subst hact;have e1:z29 = .slice so n cap:=hd1;subst e1;clear hd1;obtain⟨V,e7,hV⟩:=hd7;subst e7;have e9:z37 = .pointer (some ⟨ob,2,none⟩):=hd9;subst e9;clear hd9;simp only[Act.put,List.setIfInBounds_toArray,List.set_cons_succ,List.set_cons_zero];have HV:=ħ hV;have S4:=ħ (SR.o.step hb4.o);have O4:=ħ (OR.o.below hb4.o);have L4:=ħ (LR.o.trans (hb4.o.mono LR.o.size));have K4:Hid (ob+1≤w4.heap.size):=ħ (Nat.le_trans KR.o hb4.o.size);clear hV hb4 HOB HCB HUC SR OR LR;refine (Zab rfl ?_);refine Zlv 24 39 (.agg #[.int .i64 0,.int .i64 0,.int .i64 0,.int .i64 0]) 4 32 Tryz.underlying24 Zdj rfl (by omega) (by omega) w4 (ob+1) rfl (.tmp 29) (.tmp 35) rfl so cap n (((us.take ix).filter (Zdo wd true)).flatMap Zbv) ?r1A O4.o K4.o V 1 1 [.int .i64 u0,.int .i64 u1,.int .i64 u2,.int .i64 u3] 39 ?r2A HV.o rfl (by omega) ?r3A (by omega) ?_
     case r1A=>rfl
     case r2A=>rfl
     case r3A=>simp[Value.oneCell']
     intro g6 off6 c6 wq o6 b6;have O6:Hid (OwnK wq (ob+1) 4 (n+1) c6 ((((us.take ix).filter (Zdo wd true))++[(⟨u0,u1,u2,u3⟩:Use)]).flatMap Zbv) (some ⟨g6,off6,none⟩)):=ħ (by rw[List.flatMap_append];exact o6);have S6:=ħ (S4.o.below b6 HOW.o);have L6:=ħ (L4.o.trans (b6.mono HWW.o));have HG6:Hid (ob+1≤g6):=ħ (O6.o.blk_lt rfl).1;clear o6 b6 S4 L4 O4 HV K4;have c8:=S6.o.cell 2 _ rfl;have f8:=S6.o.warm 2;have SZ:Hid (Zaf (wq.setCell ⟨ob,2,none⟩ (.slice (some ⟨g6,off6,none⟩) (n+1) c6)) (ob) 26 [.slice qo qn qc,.slice mo mn mc,.slice (some ⟨g6,off6,none⟩) (n+1) c6]):=ħ (S6.o.set 2 _)
     have OZ:=ħ (O6.o.setCell (p:=⟨ob,2,none⟩) (.slice (some ⟨g6,off6,none⟩) (n+1) c6) (fun e=>by
      have e:g6=ob:=Option.some.inj e;have:=HG6.o;have:=HOW.o
      omega))
     have LZ:=ħ (L6.o.setCell (p:=⟨ob,2,none⟩) HOO.o (.slice (some ⟨g6,off6,none⟩) (n+1) c6));have KZ:Hid (ob+1≤(wq.setCell ⟨ob,2,none⟩ (.slice (some ⟨g6,off6,none⟩) (n+1) c6)).heap.size):=ħ (Nat.le_trans HG6.o (Nat.le_of_lt (OZ.o.blk_lt rfl).2));clear S6 O6 L6
     go_wp2_with fail
     refine Zaa (Zas (Zab rfl ?_))
     go_wp2_with fail
     refine Zaa (Zbp ?_);clear c8 f8;generalize wq.setCell ⟨ob,2,none⟩ (.slice (some ⟨g6,off6,none⟩) (n+1) c6)=wz at *
     go_wp2_with fail
     go_roundw
     case rel=>exact⟨ix+1,by go_num,by omega,ħ ⟨n+1,c6,some ⟨g6,off6,none⟩,by omega,by rw[HT.o,if_pos (by trivial),List.length_append,HN.o];rfl,SZ.o,by rw[HT.o,if_pos (by trivial)];exact OZ.o,KZ.o,LZ.o⟩⟩
     case measure=>simp only[intOf];omega
    case hB =>
     intro listed a' w4 H hsn hall;have hd1:auF (w.heap.size) ob ix gu ou un uc n cap so u0 u1 u2 u3 1 w4 (a'.tmps.getD 29 undef):=H.done 1 _ 29 rfl (hall 1 (by decide)) rfl;have hd7:auF (w.heap.size) ob ix gu ou un uc n cap so u0 u1 u2 u3 7 w4 (a'.tmps.getD 35 undef):=H.done 7 _ 35 rfl (hall 7 (by decide)) rfl;have hb4:=ħ H.below;have hact:=H.actX hsn [28,29,30,31,32,33,34,35,37] (Zlm (by kernel_rfl));clear H hall hsn;simp only[List.foldl_cons,List.foldl_nil] at hact;generalize a'.tmps.getD 28 undef=z28 at *;generalize a'.tmps.getD 29 undef=z29 at *;generalize a'.tmps.getD 30 undef=z30 at *;generalize a'.tmps.getD 31 undef=z31 at *;generalize a'.tmps.getD 32 undef=z32 at *;generalize a'.tmps.getD 33 undef=z33 at *;generalize a'.tmps.getD 34 undef=z34 at *;generalize a'.tmps.getD 35 undef=z35 at *;generalize a'.tmps.getD 37 undef=z37 at *;subst hact;have e1:z29 = .slice so n cap:=hd1;subst e1;clear hd1;obtain⟨V,e7,hV⟩:=hd7;subst e7;simp only[Act.put,List.setIfInBounds_toArray,List.set_cons_succ,List.set_cons_zero];have HV:=ħ hV;have S4:=ħ (SR.o.step hb4.o);have O4:=ħ (OR.o.below hb4.o);have L4:=ħ (LR.o.trans (hb4.o.mono LR.o.size));have K4:Hid (ob+1≤w4.heap.size):=ħ (Nat.le_trans KR.o hb4.o.size);clear hV hb4 HOB HCB HUC SR OR LR;refine Zas (Zab rfl ?_);refine Zlv 24 39 (.agg #[.int .i64 0,.int .i64 0,.int .i64 0,.int .i64 0]) 4 32 Tryz.underlying24 Zdj rfl (by omega) (by omega) w4 (ob+1) rfl (.tmp 29) (.tmp 35) rfl so cap n (((us.take ix).filter (Zdo wd true)).flatMap Zbv) ?r1B O4.o K4.o V 1 1 [.int .i64 u0,.int .i64 u1,.int .i64 u2,.int .i64 u3] 39 ?r2B HV.o rfl (by omega) ?r3B (by omega) ?_
     case r1B=>rfl
     case r2B=>rfl
     case r3B=>simp[Value.oneCell']
     intro g6 off6 c6 wq o6 b6;have O6:Hid (OwnK wq (ob+1) 4 (n+1) c6 ((((us.take ix).filter (Zdo wd true))++[(⟨u0,u1,u2,u3⟩:Use)]).flatMap Zbv) (some ⟨g6,off6,none⟩)):=ħ (by rw[List.flatMap_append];exact o6);have S6:=ħ (S4.o.below b6 HOW.o);have L6:=ħ (L4.o.trans (b6.mono HWW.o));have HG6:Hid (ob+1≤g6):=ħ (O6.o.blk_lt rfl).1;clear o6 b6 S4 L4 O4 HV K4;have c8:=S6.o.cell 2 _ rfl;have f8:=S6.o.warm 2;have SZ:Hid (Zaf (wq.setCell ⟨ob,2,none⟩ (.slice (some ⟨g6,off6,none⟩) (n+1) c6)) (ob) 26 [.slice qo qn qc,.slice mo mn mc,.slice (some ⟨g6,off6,none⟩) (n+1) c6]):=ħ (S6.o.set 2 _)
     have OZ:=ħ (O6.o.setCell (p:=⟨ob,2,none⟩) (.slice (some ⟨g6,off6,none⟩) (n+1) c6) (fun e=>by
      have e:g6=ob:=Option.some.inj e;have:=HG6.o;have:=HOW.o
      omega))
     have LZ:=ħ (L6.o.setCell (p:=⟨ob,2,none⟩) HOO.o (.slice (some ⟨g6,off6,none⟩) (n+1) c6));have KZ:Hid (ob+1≤(wq.setCell ⟨ob,2,none⟩ (.slice (some ⟨g6,off6,none⟩) (n+1) c6)).heap.size):=ħ (Nat.le_trans HG6.o (Nat.le_of_lt (OZ.o.blk_lt rfl).2));clear S6 O6 L6
     go_wp2_with fail
     refine Zaa (Zas (Zab rfl ?_))
     go_wp2_with fail
     refine Zaa (Zas (Zab rfl ?_))
     go_wp2_with fail
     refine Zaa (Zbp ?_);clear c8 f8;generalize wq.setCell ⟨ob,2,none⟩ (.slice (some ⟨g6,off6,none⟩) (n+1) c6)=wz at *
     go_wp2_with fail
     go_roundw
     case rel=>exact⟨ix+1,by go_num,by omega,ħ ⟨n+1,c6,some ⟨g6,off6,none⟩,by omega,by rw[HT.o,if_pos (by trivial),List.length_append,HN.o];rfl,SZ.o,by rw[HT.o,if_pos (by trivial)];exact OZ.o,KZ.o,LZ.o⟩⟩
     case measure=>simp only[intOf];omega
  ·have ii:¬ (ix:Int)<un:=by omega
   obtain rfl:un=ix:=by omega
   have ZR:=ħ (HZW.o wr LR.o)
   go_wp2_with (first | (refine wpList_load_row rfl 26 (.tmp 7) rfl (ob) ?yy1 26 #[.slice qo qn qc,.slice mo mn mc,.slice so n cap] (0,0) _ SR.o Tryz.underlying26 rfl (Zaw _ _ _) ?_;(case yy1=>rfl)) | (refine Zan rfl 26 (.tmp 6) (.tmp 38) rfl (w.heap.size+1) #[.slice qo qn qc,.slice mo mn mc,.slice so n cap] (by rfl) (by rfl) 26 _ ZR.o (Zaw _ _ _) rfl (by simp[Value.oneCell']) ?_;intro w11 s11 u11;have S11:=ħ s11;have U11:=ħ u11;clear s11 u11))
   have HRS:Hid ((Zar us wd true).length=n):=ħ (by rw[← HALL.o];exact HN.o);rw[HRS.o];refine bodyPost_ret (results_cell_row (p:=6) (by kernel_rfl) _ _ (w.heap.size+1) 26 #[.slice qo qn qc,.slice mo mn mc,.slice so n cap] (0,0) _ rfl S11.o Tryz.underlying26 rfl (Zaw _ _ _)) rfl ⟨⟨so,cap,rfl,?_,OR.o.len_le.1⟩,U11.o.below (HBW.o wr LR.o) (by omega)⟩;rw[← HALL.o]
   exact ((OR.o.upd U11.o (fun e=>by
    have h1:=(OR.o.blk_lt e).1;have h2:=HZ1.o;have h3:=HOE.o
    omega)).flatR Za2 HN.o.symm)
theorem Zyu (w:World) (c:Crw) (cs:List Value) (wd:Int) (oth:Bool) (hcw:Zf9 w c cs) (hn:c.us.length≤999) :
  Calls Tryz.prog 21 #[.agg cs.toArray,.int .i64 wd,.bool oth] w fun e w'=>(∃ so cap,e = .returned (.agg (cs.set 2 (.slice so (Zar c.us wd oth).length cap)).toArray)∧Zal Zbv w' so (Zar c.us wd oth)∧(Zar c.us wd oth).length≤cap)∧Below w.heap.size w w':=by
 cases oth
 ·exact Zsi w c cs wd hcw hn
 ·exact Zwb w c cs wd hcw hn
end
end Go.Proofs.YtbcgocpihobjnaaGreatDoor
