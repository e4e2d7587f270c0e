import Derived.Test.YtbcgocpihobjnaaGreatDoorCR42
import Derived.Test.YtbcgocpihobjnaaGreatDoorCR39
import Derived.Test.YtbcgocpihobjnaaGreatDoorCR37
import Derived.Test.YtbcgocpihobjnaaGreatDoorCR33
set_option linter.unusedVariables false
set_option linter.unusedSimpArgs false
set_option maxHeartbeats 32000000
set_option maxRecDepth 100000
namespace Go.Proofs.YtbcgocpihobjnaaGreatDoor
section
open Go Go.ChangeShapes Go.WideShapes Go.ChangeAt Go.WideMaps Go.WideElems Go.RowKit
theorem Zzb:Tryz.prog.cellsOf 44=3:=by kernel_rfl
theorem Zx7:Tryz.prog.cellsOf 39=4:=by kernel_rfl
theorem Zyu:Tryz.prog.cellsOf 79=2:=by kernel_rfl
theorem cLP:Tryz.prog.cellsOf 22=1:=by kernel_rfl
theorem cLB:Tryz.prog.cellsOf 42=1:=by kernel_rfl
theorem cLI:Tryz.prog.cellsOf 33=1:=by kernel_rfl
theorem cLM:Tryz.prog.cellsOf 23=1:=by kernel_rfl
theorem cLS:Tryz.prog.cellsOf 24=1:=by kernel_rfl
instance:Inhabited Use:=⟨⟨0,0,0,0⟩⟩
instance:Inhabited Wsh:=⟨⟨0,0⟩⟩
instance:Inhabited Mem:=⟨⟨[],[],0⟩⟩
section
variable {H:Type} {enc:TypeId×Value→H} {W:World}
theorem Zs2 {fuel:Nat} {v:Value} {y:DataW H×List MemPlace} (h:DataW.trod enc Tryz.prog W 0 (fun _=>true) true fuel 33 [v]=some y) :
  ∃ (l:List Int) (ao:Option Addr) (n c:Nat),v = .slice ao n c∧n=l.length∧n≤c∧n≤9223372036854775807∧Zak Zbb W ao l:=by
 obtain⟨ao,n,c,e4,hmc,hcm,hel⟩:=Zbg Tryz.underlying33 cI (by decide) h
 have hlen:n≤9223372036854775807:=Nat.le_trans hmc (Nat.le_trans hcm (by decide))
 rcases hel with h0 | ⟨g,off,n',h1,h2,h3,h4⟩
 ·exact⟨[],ao,n,c,e4,h0,hmc,hlen,.inl rfl⟩
 ·obtain⟨l,hl,hk⟩:=Zcc (α:=Int) n (fun i x=>W.cell? ⟨g,off+i,none⟩=some (.int .i64 x)) (fun i hi=>by
   obtain⟨cs,y,h5,h6,h7⟩:=h4 i hi
   match cs,h5 with
   | [c0],_ =>
    obtain⟨k,e0,-,-⟩:=DataW.trod_int Tryz.underlying3 h7
    simp only[List.cons.injEq,and_true] at e0
    subst e0
    have:=h6 0 _ rfl
    rw[Nat.mul_one,Nat.add_zero] at this
    exact⟨k,this⟩)
  refine⟨l,ao,n,c,e4,hl.symm,hmc,hlen,.inr ⟨g,off,h1,h2,fun j u hj=>?_⟩⟩
  rw[← Zdx,ivs,List.getElem?_map] at hj
  obtain⟨x,hx,rfl⟩:=Option.map_eq_some_iff.1 hj
  exact hk j x hx
theorem Zs3 {fuel:Nat} {v:Value} {y:DataW H×List MemPlace} (h:DataW.trod enc Tryz.prog W 0 (fun _=>true) true fuel 22 [v]=some y) :
  ∃ (l:List Prd) (ao:Option Addr) (n c:Nat),v = .slice ao n c∧n=l.length∧n≤c∧n≤9223372036854775807∧Zel W (fun _=>True) l ao∧(∀ p∈l,ByL p)∧(∀ p∈l,Zq4 p):=by
 obtain⟨ao,n,c,e4,hmc,hcm,hel⟩:=Zbg Tryz.underlying22 cP (by decide) h
 have hlen:n≤9223372036854775807:=Nat.le_trans hmc (Nat.le_trans hcm (by decide))
 rcases hel with h0 | ⟨g,off,n',h1,h2,h3,h4⟩
 ·exact⟨[],ao,n,c,e4,h0,hmc,hlen,.inl rfl,by simp,by simp⟩
 ·obtain⟨ks,hkl,hk⟩:=Zcc (α:=Prd) n (fun i p=>(∃ vs,Zam W (fun g=>g<W.heap.size) p vs∧Zar W g (off+i*5) vs)∧ByL p∧Zq4 p) (fun i hi=>by
   obtain⟨cs,y,h5,h6,h7⟩:=h4 i hi
   obtain⟨p,hp1,hp2,hp3⟩:=Zr8 n' cs y h7
   exact⟨p,⟨cs,hp1,h6⟩,hp2,hp3⟩)
  have hpr:Zel W (fun g=>g<W.heap.size) ks ao:=.inr ⟨g,off,h1,h2,h2,Zjz ks g off (fun i p hp=>(hk i p hp).1)⟩
  refine⟨ks,ao,n,c,e4,hkl.symm,hmc,hlen,hpr.mono (fun _ _ _=>trivial),fun q hq=>?_,fun q hq=>?_⟩
  ·obtain⟨i,hi⟩:=List.mem_iff_getElem?.1 hq
   exact (hk i q hi).2.1
  ·obtain⟨i,hi⟩:=List.mem_iff_getElem?.1 hq
   exact (hk i q hi).2.2
theorem Zs4 {fuel:Nat} {v:Value} {y:DataW H×List MemPlace} (h:DataW.trod enc Tryz.prog W 0 (fun _=>true) true fuel 42 [v]=some y) :
  ∃ (l:List Bnd) (ao:Option Addr) (n c:Nat),v = .slice ao n c∧n=l.length∧n≤c∧n≤9223372036854775807∧(∀ b∈l,NmL b.n)∧Zak Zvv W ao l:=by
 obtain⟨ao,n,c,e4,hmc,hcm,hel⟩:=Zbg Tryz.underlying42 cB (by decide) h
 have hlen:n≤9223372036854775807:=Nat.le_trans hmc (Nat.le_trans hcm (by decide))
 rcases hel with h0 | ⟨g,off,n',h1,h2,h3,h4⟩
 ·exact⟨[],ao,n,c,e4,h0,hmc,hlen,by simp,.inl rfl⟩
 ·obtain⟨l,hl,hk⟩:=Zcc (α:=Bnd) n (fun i b=>(NmL b.n)∧Zar W g (off+i*2) (Zvv b)) (fun i hi=>by
   obtain⟨cs,y,h5,h6,h7⟩:=h4 i hi
   obtain⟨xs,n2,hn,-,hl,hxl,hf⟩:=DataW.trod_struct Tryz.underlying164 h7
   match cs,h5 with
   | [c0,c1],_ =>
    match xs,hxl with
    | [y0,y1],_ =>
     have f0:DataW.trod enc Tryz.prog W 0 (fun _=>true) true n2 9 (([c0,c1]:List Value).drop 0 |>.take (Tryz.prog.cellsOf 9))=some y0:=hf 0 _ rfl
     have f1:DataW.trod enc Tryz.prog W 0 (fun _=>true) true n2 3 (([c0,c1]:List Value).drop 1 |>.take (Tryz.prog.cellsOf 3))=some y1:=hf 1 _ rfl
     rw[cS] at f0
     rw[cI] at f1
     obtain⟨s0,e0,-,z0⟩:=DataW.trod_string Tryz.underlying9 (show DataW.trod enc Tryz.prog W 0 (fun _=>true) true n2 9 [c0]=some y0 from f0)
     obtain⟨k1,e1,-,-⟩:=DataW.trod_int Tryz.underlying3 (show DataW.trod enc Tryz.prog W 0 (fun _=>true) true n2 3 [c1]=some y1 from f1)
     simp only[List.cons.injEq,and_true] at e0 e1
     subst e0 e1
     obtain⟨l0,rfl,b0,g0⟩:=Zdy s0
     exact⟨⟨l0,k1⟩,⟨b0,by rw[g0];exact Nat.le_trans z0 (by decide)⟩,h6⟩)
  refine⟨l,ao,n,c,e4,hl.symm,hmc,hlen,fun b hb=>?_,.inr ⟨g,off,h1,h2,fun j u hj=>?_⟩⟩
  ·obtain⟨i,hi⟩:=List.mem_iff_getElem?.1 hb
   exact (hk i b hi).1
  ·have hjl:=(List.getElem?_eq_some_iff.1 hj).1
   rw[Zba Zvv 2 Zjx] at hjl
   have hi:j/2<l.length:=by omega
   have hb:=List.getElem?_eq_getElem hi
   have hjj:j=j/2*2+j%2:=by omega
   have h9:=(hk (j/2) _ hb).2 (j%2) u (by
    rw[← Zb2 Zvv 2 Zjx l (j/2) (j%2) _ hb (Nat.mod_lt _ (by decide)),← hjj];exact hj)
   rwa [Nat.add_assoc,← hjj] at h9
theorem Zs5 {fuel:Nat} {v:Value} {y:DataW H×List MemPlace} (h:DataW.trod enc Tryz.prog W 0 (fun _=>true) true fuel 24 [v]=some y) :
  ∃ (l:List Use) (ao:Option Addr) (n c:Nat),v = .slice ao n c∧n=l.length∧n≤c∧n≤9223372036854775807∧(∀ b∈l,True)∧Zak Zbu W ao l:=by
 obtain⟨ao,n,c,e4,hmc,hcm,hel⟩:=Zbg Tryz.underlying24 Zx7 (by decide) h
 have hlen:n≤9223372036854775807:=Nat.le_trans hmc (Nat.le_trans hcm (by decide))
 rcases hel with h0 | ⟨g,off,n',h1,h2,h3,h4⟩
 ·exact⟨[],ao,n,c,e4,h0,hmc,hlen,by simp,.inl rfl⟩
 ·obtain⟨l,hl,hk⟩:=Zcc (α:=Use) n (fun i b=>(True)∧Zar W g (off+i*4) (Zbu b)) (fun i hi=>by
   obtain⟨cs,y,h5,h6,h7⟩:=h4 i hi
   obtain⟨xs,n2,hn,-,hl,hxl,hf⟩:=DataW.trod_struct Tryz.underlying39 h7
   match cs,h5 with
   | [c0,c1,c2,c3],_ =>
    match xs,hxl with
    | [y0,y1,y2,y3],_ =>
     have f0:DataW.trod enc Tryz.prog W 0 (fun _=>true) true n2 3 (([c0,c1,c2,c3]:List Value).drop 0 |>.take (Tryz.prog.cellsOf 3))=some y0:=hf 0 _ rfl
     have f1:DataW.trod enc Tryz.prog W 0 (fun _=>true) true n2 3 (([c0,c1,c2,c3]:List Value).drop 1 |>.take (Tryz.prog.cellsOf 3))=some y1:=hf 1 _ rfl
     have f2:DataW.trod enc Tryz.prog W 0 (fun _=>true) true n2 3 (([c0,c1,c2,c3]:List Value).drop 2 |>.take (Tryz.prog.cellsOf 3))=some y2:=hf 2 _ rfl
     have f3:DataW.trod enc Tryz.prog W 0 (fun _=>true) true n2 3 (([c0,c1,c2,c3]:List Value).drop 3 |>.take (Tryz.prog.cellsOf 3))=some y3:=hf 3 _ rfl
     rw[cI] at f0
     rw[cI] at f1
     rw[cI] at f2
     rw[cI] at f3
     obtain⟨k0,e0,-,-⟩:=DataW.trod_int Tryz.underlying3 (show DataW.trod enc Tryz.prog W 0 (fun _=>true) true n2 3 [c0]=some y0 from f0)
     obtain⟨k1,e1,-,-⟩:=DataW.trod_int Tryz.underlying3 (show DataW.trod enc Tryz.prog W 0 (fun _=>true) true n2 3 [c1]=some y1 from f1)
     obtain⟨k2,e2,-,-⟩:=DataW.trod_int Tryz.underlying3 (show DataW.trod enc Tryz.prog W 0 (fun _=>true) true n2 3 [c2]=some y2 from f2)
     obtain⟨k3,e3,-,-⟩:=DataW.trod_int Tryz.underlying3 (show DataW.trod enc Tryz.prog W 0 (fun _=>true) true n2 3 [c3]=some y3 from f3)
     simp only[List.cons.injEq,and_true] at e0 e1 e2 e3
     subst e0 e1 e2 e3
     exact⟨⟨k0,k1,k2,k3⟩,trivial,h6⟩)
  refine⟨l,ao,n,c,e4,hl.symm,hmc,hlen,fun b hb=>?_,.inr ⟨g,off,h1,h2,fun j u hj=>?_⟩⟩
  ·obtain⟨i,hi⟩:=List.mem_iff_getElem?.1 hb
   exact (hk i b hi).1
  ·have hjl:=(List.getElem?_eq_some_iff.1 hj).1
   rw[Zba Zbu 4 Zbf] at hjl
   have hi:j/4<l.length:=by omega
   have hb:=List.getElem?_eq_getElem hi
   have hjj:j=j/4*4+j%4:=by omega
   have h9:=(hk (j/4) _ hb).2 (j%4) u (by
    rw[← Zb2 Zbu 4 Zbf l (j/4) (j%4) _ hb (Nat.mod_lt _ (by decide)),← hjj];exact hj)
   rwa [Nat.add_assoc,← hjj] at h9
theorem Zs6 {fuel:Nat} {v:Value} {y:DataW H×List MemPlace} (h:DataW.trod enc Tryz.prog W 0 (fun _=>true) true fuel 56 [v]=some y) :
  ∃ (l:List Wsh) (ao:Option Addr) (n c:Nat),v = .slice ao n c∧n=l.length∧n≤c∧n≤9223372036854775807∧(∀ b∈l,True)∧Zak Zm0 W ao l:=by
 obtain⟨ao,n,c,e4,hmc,hcm,hel⟩:=Zbg Tryz.underlying56 Zyu (by decide) h
 have hlen:n≤9223372036854775807:=Nat.le_trans hmc (Nat.le_trans hcm (by decide))
 rcases hel with h0 | ⟨g,off,n',h1,h2,h3,h4⟩
 ·exact⟨[],ao,n,c,e4,h0,hmc,hlen,by simp,.inl rfl⟩
 ·obtain⟨l,hl,hk⟩:=Zcc (α:=Wsh) n (fun i b=>(True)∧Zar W g (off+i*2) (Zm0 b)) (fun i hi=>by
   obtain⟨cs,y,h5,h6,h7⟩:=h4 i hi
   obtain⟨xs,n2,hn,-,hl,hxl,hf⟩:=DataW.trod_struct Tryz.underlying79 h7
   match cs,h5 with
   | [c0,c1],_ =>
    match xs,hxl with
    | [y0,y1],_ =>
     have f0:DataW.trod enc Tryz.prog W 0 (fun _=>true) true n2 3 (([c0,c1]:List Value).drop 0 |>.take (Tryz.prog.cellsOf 3))=some y0:=hf 0 _ rfl
     have f1:DataW.trod enc Tryz.prog W 0 (fun _=>true) true n2 3 (([c0,c1]:List Value).drop 1 |>.take (Tryz.prog.cellsOf 3))=some y1:=hf 1 _ rfl
     rw[cI] at f0
     rw[cI] at f1
     obtain⟨k0,e0,-,-⟩:=DataW.trod_int Tryz.underlying3 (show DataW.trod enc Tryz.prog W 0 (fun _=>true) true n2 3 [c0]=some y0 from f0)
     obtain⟨k1,e1,-,-⟩:=DataW.trod_int Tryz.underlying3 (show DataW.trod enc Tryz.prog W 0 (fun _=>true) true n2 3 [c1]=some y1 from f1)
     simp only[List.cons.injEq,and_true] at e0 e1
     subst e0 e1
     exact⟨⟨k0,k1⟩,trivial,h6⟩)
  refine⟨l,ao,n,c,e4,hl.symm,hmc,hlen,fun b hb=>?_,.inr ⟨g,off,h1,h2,fun j u hj=>?_⟩⟩
  ·obtain⟨i,hi⟩:=List.mem_iff_getElem?.1 hb
   exact (hk i b hi).1
  ·have hjl:=(List.getElem?_eq_some_iff.1 hj).1
   rw[Zba Zm0 2 Zka] at hjl
   have hi:j/2<l.length:=by omega
   have hb:=List.getElem?_eq_getElem hi
   have hjj:j=j/2*2+j%2:=by omega
   have h9:=(hk (j/2) _ hb).2 (j%2) u (by
    rw[← Zb2 Zm0 2 Zka l (j/2) (j%2) _ hb (Nat.mod_lt _ (by decide)),← hjj];exact hj)
   rwa [Nat.add_assoc,← hjj] at h9
theorem Zs7 {fuel:Nat} {v:Value} {y:DataW H×List MemPlace} (h:DataW.trod enc Tryz.prog W 0 (fun _=>true) true fuel 23 [v]=some y) :
  ∃ (l:List Mem) (ao:Option Addr) (n c:Nat),v = .slice ao n c∧n=l.length∧n≤c∧n≤9223372036854775807∧(∀ m∈l,(∀ b∈m.b,NmL b.n)∧m.b.length≤9223372036854775807∧m.t.length≤9223372036854775807)∧Zhd W l ao:=by
 obtain⟨ao,n,c,e4,hmc,hcm,hel⟩:=Zbg Tryz.underlying23 Zzb (by decide) h
 have hlen:n≤9223372036854775807:=Nat.le_trans hmc (Nat.le_trans hcm (by decide))
 rcases hel with h0 | ⟨g,off,n',h1,h2,h3,h4⟩
 ·exact⟨[],ao,n,c,e4,h0,hmc,hlen,by simp,.inl rfl⟩
 ·obtain⟨l,hl,hk⟩:=Zcc (α:=Mem) n (fun i m=>((∀ b∈m.b,NmL b.n)∧m.b.length≤9223372036854775807∧m.t.length≤9223372036854775807)∧∃ cs,Zrf W m cs∧Zar W g (off+i*3) cs) (fun i hi=>by
   obtain⟨cs,y,h5,h6,h7⟩:=h4 i hi
   obtain⟨xs,n2,hn,-,hl,hxl,hf⟩:=DataW.trod_struct Tryz.underlying44 h7
   match cs,h5 with
   | [c0,c1,c2],_ =>
    match xs,hxl with
    | [y0,y1,y2],_ =>
     have f0:DataW.trod enc Tryz.prog W 0 (fun _=>true) true n2 42 (([c0,c1,c2]:List Value).drop 0 |>.take (Tryz.prog.cellsOf 42))=some y0:=hf 0 _ rfl
     have f1:DataW.trod enc Tryz.prog W 0 (fun _=>true) true n2 33 (([c0,c1,c2]:List Value).drop 1 |>.take (Tryz.prog.cellsOf 33))=some y1:=hf 1 _ rfl
     have f2:DataW.trod enc Tryz.prog W 0 (fun _=>true) true n2 3 (([c0,c1,c2]:List Value).drop 2 |>.take (Tryz.prog.cellsOf 3))=some y2:=hf 2 _ rfl
     rw[cLB] at f0
     rw[cLI] at f1
     rw[cI] at f2
     obtain⟨bl,bo,bn,bc,e0,hb1,hb2,hb3,hb4,hb5⟩:=Zs4 (show DataW.trod enc Tryz.prog W 0 (fun _=>true) true n2 42 [c0]=some y0 from f0)
     obtain⟨tl,ta,tn,tc,e1,ht1,ht2,ht3,ht4⟩:=Zs2 (show DataW.trod enc Tryz.prog W 0 (fun _=>true) true n2 33 [c1]=some y1 from f1)
     obtain⟨k,e2,-,-⟩:=DataW.trod_int Tryz.underlying3 (show DataW.trod enc Tryz.prog W 0 (fun _=>true) true n2 3 [c2]=some y2 from f2)
     simp only[List.cons.injEq,and_true] at e2
     subst e0 e1 e2 hb1 ht1
     refine⟨⟨bl,tl,k⟩,⟨hb4,hb3,ht3⟩,_,⟨bo,bc,ta,tc,rfl,?_,ht4⟩,h6⟩
     rcases hb5 with hb5 | ⟨g5,o5,q1,q2,q3⟩
     ·exact .inl hb5
     ·exact .inr ⟨g5,o5,q1,trivial,q2,q3⟩)
  refine⟨l,ao,n,c,e4,hl.symm,hmc,hlen,fun m hm=>?_,.inr ⟨g,off,h1,h2,fun i m hm=>(hk i m hm).2⟩⟩
  obtain⟨i,hi⟩:=List.mem_iff_getElem?.1 hm
  exact (hk i m hi).1
theorem Zvn {r:Reach} {b0:Nat} {v:Value} {d:DataW H} {p:List MemPlace} (hv:Value.okWide Tryz.prog W r b0 26 v) (h:DataW.Trod enc Tryz.prog W 0 (fun _=>true) true 26 v d p) :
  ∃ (c:Crw) (cs:List Value),v = .agg cs.toArray∧Zgq W c cs∧LenC c∧(∀ p∈c.qs,ByL p)∧(∀ m∈c.ms,∀ b∈m.b,NmL b.n):=by
 obtain⟨cs,rfl,hsz⟩:=okWide_struct Tryz.underlying26 hv
 obtain⟨fuel,hf⟩:=h
 have hcs:(Value.agg cs).cells=cs:=rfl
 rw[hcs] at hf
 obtain⟨xs,n2,hn,-,hl,hxl,hf⟩:=DataW.trod_struct Tryz.underlying26 hf
 have hl3:cs.toList.length=3:=by rw[hl];kernel_rfl
 obtain⟨l0⟩:=cs
 match l0,hl3 with
 | [c0,c1,c2],_ =>
  match xs,hxl with
  | [y0,y1,y2],_ =>
   have f0:DataW.trod enc Tryz.prog W 0 (fun _=>true) true n2 22 (([c0,c1,c2]:List Value).drop 0 |>.take (Tryz.prog.cellsOf 22))=some y0:=hf 0 _ rfl
   have f1:DataW.trod enc Tryz.prog W 0 (fun _=>true) true n2 23 (([c0,c1,c2]:List Value).drop 1 |>.take (Tryz.prog.cellsOf 23))=some y1:=hf 1 _ rfl
   have f2:DataW.trod enc Tryz.prog W 0 (fun _=>true) true n2 24 (([c0,c1,c2]:List Value).drop 2 |>.take (Tryz.prog.cellsOf 24))=some y2:=hf 2 _ rfl
   rw[cLP] at f0
   rw[cLM] at f1
   rw[cLS] at f2
   obtain⟨ql,qo,qn,qc,e0,hq1,hq2,hq3,hq4,hq5,hq6⟩:=Zs3 (show DataW.trod enc Tryz.prog W 0 (fun _=>true) true n2 22 [c0]=some y0 from f0)
   obtain⟨ml,mo,mn,mc,e1,hm1,hm2,hm3,hm4,hm5⟩:=Zs7 (show DataW.trod enc Tryz.prog W 0 (fun _=>true) true n2 23 [c1]=some y1 from f1)
   obtain⟨ul,uo,un,uc,e2,hu1,hu2,hu3,-,hu5⟩:=Zs5 (show DataW.trod enc Tryz.prog W 0 (fun _=>true) true n2 24 [c2]=some y2 from f2)
   subst e0 e1 e2 hq1 hm1 hu1
   exact⟨⟨ql,ml,ul⟩,_,rfl,⟨qo,qc,mo,mc,uo,uc,rfl,hq4,hm5,hu5,hu2⟩,⟨hq6,fun m hm=>(hm4 m hm).2,hq3,hm3,hu3⟩,hq5,fun m hm=>(hm4 m hm).1⟩
end
theorem Zxb {c:Crw} (hf:Zx6 c=true) (hL:LenC c) (hb:∀ p∈c.qs,ByL p) (hm:∀ m∈c.ms,∀ b∈m.b,NmL b.n):CrwOk c∧c.us.length≤999∧c.ms.length≤65∧c.qs.length≤129:=by
 unfold Zx6 at hf
 simp only[Bool.and_eq_true,List.all_eq_true] at hf
 obtain⟨⟨h1,h2⟩,h3⟩:=hf
 unfold Zdz at h1
 simp only[Bool.and_eq_true,Bool.or_eq_true,decide_eq_true_eq] at h1
 refine⟨⟨fun p hp=>⟨hb p hp,?_⟩,fun m hmm=>⟨hm m hmm,?_,?_⟩,by omega,by omega,by omega⟩,by omega,by omega,by omega⟩
 ·have:=Zwp (h2 p hp);omega
 ·have:=h3 m hmm
  unfold Zs1 at this
  simp only[Bool.and_eq_true,decide_eq_true_eq] at this
  omega
 ·have:=h3 m hmm
  unfold Zs1 at this
  simp only[Bool.and_eq_true,decide_eq_true_eq] at this
  omega
end
section
open Go.RowKit Go.Sort Go.Maps
structure Opt where
 u:Use
 k:Int
instance:Inhabited Opt:=⟨⟨default,0⟩⟩
def Zv2 (o:Opt):List Value:=Zbu o.u++[.int .i64 o.k]
theorem Zdf (o:Opt):(Zv2 o).length=5:=rfl
def Zh9 (b:Option (Nat×Int)) (k:Int):Bool:=match b with
 | none=>true
 | some p=>decide (k<p.2)
def Zps (c:Crw) (own:List Int) (l:List Wsh) (i:Nat) (o:Opt) (b:Option (Nat×Int)):Option (Nat×Int):=if (Zh9 b o.k&&Zc8 c own o.u l)=true then some (i,o.k) else b
def Zkq (c:Crw) (own:List Int) (l:List Wsh):List Opt→Nat→Option (Nat×Int)→Option (Nat×Int)
 | [],_,b=>b
 | o::os,i,b=>Zkq c own l os (i+1) (Zps c own l i o b)
def Zxc (c:Crw) (own:List Int) (l:List Wsh) (os:List Opt):Option (Nat×Int):=if 32<os.length then none else Zkq c own l os 0 none
def Zs8 (b:Option (Nat×Int)):Int:=match b with
 | none=>-1
 | some p=>(p.1:Int)
def AtB (os:List Opt) (i:Nat) (b:Option (Nat×Int)):Prop:=∀ p,b=some p→p.1<i∧∃ o,os[p.1]?=some o∧o.k=p.2
theorem AtB.step {c:Crw} {own:List Int} {l:List Wsh} {os:List Opt} {i:Nat} {b:Option (Nat×Int)} {o:Opt} (h:AtB os i b) (ho:os[i]?=some o):AtB os (i+1) (Zps c own l i o b):=by
 intro p hp
 unfold Zps at hp
 by_cases hq:(Zh9 b o.k&&Zc8 c own o.u l)=true
 ·rw[if_pos hq] at hp
  obtain rfl:=Option.some.inj hp
  exact⟨Nat.lt_succ_self _,o,ho,rfl⟩
 ·rw[if_neg hq] at hp
  obtain⟨h1,h2⟩:=h p hp
  exact⟨by omega,h2⟩
theorem Zxd (t:Array Value) (h:t.size=48):∃ f:Nat→Value,t=#[f 0,f 1,f 2,f 3,f 4,f 5,f 6,f 7,f 8,f 9,f 10,f 11,f 12,f 13,f 14,f 15,f 16,f 17,f 18,f 19,f 20,f 21,f 22,f 23,f 24,f 25,f 26,f 27,f 28,f 29,f 30,f 31,f 32,f 33,f 34,f 35,f 36,f 37,f 38,f 39,f 40,f 41,f 42,f 43,f 44,f 45,f 46,f 47]:=by
 obtain⟨l⟩:=t
 have hl:l.length=48:=h
 have e:l=(List.range 48).map (fun i=>l.getD i undef):=by
  apply List.ext_getElem
  ·simp[hl]
  ·intro i h1 h2
   simp[List.getD,h1]
 exact⟨fun i=>l.getD i undef,congrArg List.toArray e⟩
def Zkd (j no oc oc2 nw wc nl bx g off cb:Nat) (oo wo:Option Addr) (cs:List Value) (u:Use) (kc kb:Int) (kk:Bool) (i:Nat) (W:World) (v:Value):Prop:=match i with
 | 0=>v = .int .i64 (-1)
 | 1=>v = .bool true
 | 2=>v = .bool true
 | 3=>v=undef
 | 4=>v=undef
 | 5=>v=undef
 | 6=>v=undef
 | 7=>v=undef
 | 8=>v=undef
 | 9=>v=undef
 | 10=>v=undef
 | 11=>v = .bool true
 | 12=>v = .bool true
 | 13=>v = .agg cs.toArray
 | 14=>v = .slice oo nw oc2
 | 15=>v = .pointer (some ⟨bx,0,none⟩)
 | 16=>v = .agg (Zbu u).toArray
 | 17=>v = .slice wo nl wc
 | 18=>v = .bool kk
 | 19=>v = .bool kk
 | _=>True
theorem Zl2 (j no oc oc2 nw wc nl bx g off cb:Nat) (oo wo:Option Addr) (cs:List Value) (u:Use) (kc kb:Int) (kk:Bool):∀ i w w' v,Zkd j no oc oc2 nw wc nl bx g off cb oo wo cs u kc kb kk i w v→Below w.heap.size w w'→Zkd j no oc oc2 nw wc nl bx g off cb oo wo cs u kc kb kk i w' v:=by
 intro i w w' v h hb
 match i with
 | 0=>exact h
 | 1=>exact h
 | 2=>exact h
 | 3=>exact h
 | 4=>exact h
 | 5=>exact h
 | 6=>exact h
 | 7=>exact h
 | 8=>exact h
 | 9=>exact h
 | 10=>exact h
 | 11=>exact h
 | 12=>exact h
 | 13=>exact h
 | 14=>exact h
 | 15=>exact h
 | 16=>exact h
 | 17=>exact h
 | 18=>exact h
 | 19=>exact h
 | k+20=>trivial
def Zke (j no oc oc2 nw wc nl bx g off cb:Nat) (oo wo:Option Addr) (cs:List Value) (u:Use) (kc kb:Int) (kk:Bool) (i:Nat) (W:World) (v:Value):Prop:=match i with
 | 0=>v = .int .i64 (j:Nat)
 | 1=>v = .bool false
 | 2=>v = .bool false
 | 3=>v = .pointer (some ⟨bx,4,none⟩)
 | 4=>v = .int .i64 kc
 | 5=>v = .slice (some ⟨g,off,none⟩) no oc
 | 6=>v = .int .i64 (j:Nat)
 | 7=>v = .pointer (some ⟨g,off+j*5,none⟩)
 | 8=>v = .pointer (some ⟨g,off+j*5+4,none⟩)
 | 9=>v = .int .i64 kb
 | 10=>v = .bool true
 | 11=>v = .bool true
 | 12=>v = .bool true
 | 13=>v = .agg cs.toArray
 | 14=>v = .slice oo nw oc2
 | 15=>v = .pointer (some ⟨bx,0,none⟩)
 | 16=>v = .agg (Zbu u).toArray
 | 17=>v = .slice wo nl wc
 | 18=>v = .bool kk
 | 19=>v = .bool kk
 | _=>True
theorem Zl3 (j no oc oc2 nw wc nl bx g off cb:Nat) (oo wo:Option Addr) (cs:List Value) (u:Use) (kc kb:Int) (kk:Bool):∀ i w w' v,Zke j no oc oc2 nw wc nl bx g off cb oo wo cs u kc kb kk i w v→Below w.heap.size w w'→Zke j no oc oc2 nw wc nl bx g off cb oo wo cs u kc kb kk i w' v:=by
 intro i w w' v h hb
 match i with
 | 0=>exact h
 | 1=>exact h
 | 2=>exact h
 | 3=>exact h
 | 4=>exact h
 | 5=>exact h
 | 6=>exact h
 | 7=>exact h
 | 8=>exact h
 | 9=>exact h
 | 10=>exact h
 | 11=>exact h
 | 12=>exact h
 | 13=>exact h
 | 14=>exact h
 | 15=>exact h
 | 16=>exact h
 | 17=>exact h
 | 18=>exact h
 | 19=>exact h
 | k+20=>trivial
def Zoh (j no oc oc2 nw wc nl bx g off cb:Nat) (oo wo:Option Addr) (cs:List Value) (u:Use) (kc kb:Int) (kk:Bool) (i:Nat) (W:World) (v:Value):Prop:=match i with
 | 0=>v = .int .i64 (j:Nat)
 | 1=>v = .bool false
 | 2=>v = .bool false
 | 3=>v = .pointer (some ⟨bx,4,none⟩)
 | 4=>v = .int .i64 kc
 | 5=>v = .slice (some ⟨g,off,none⟩) no oc
 | 6=>v = .int .i64 (j:Nat)
 | 7=>v = .pointer (some ⟨g,off+j*5,none⟩)
 | 8=>v = .pointer (some ⟨g,off+j*5+4,none⟩)
 | 9=>v = .int .i64 kb
 | 10=>v = .bool false
 | 11=>v = .bool false
 | 12=>v = .bool false
 | 13=>v=undef
 | 14=>v=undef
 | 15=>v=undef
 | 16=>v=undef
 | 17=>v=undef
 | 18=>v=undef
 | 19=>v = .bool false
 | _=>True
theorem Zm5 (j no oc oc2 nw wc nl bx g off cb:Nat) (oo wo:Option Addr) (cs:List Value) (u:Use) (kc kb:Int) (kk:Bool):∀ i w w' v,Zoh j no oc oc2 nw wc nl bx g off cb oo wo cs u kc kb kk i w v→Below w.heap.size w w'→Zoh j no oc oc2 nw wc nl bx g off cb oo wo cs u kc kb kk i w' v:=by
 intro i w w' v h hb
 match i with
 | 0=>exact h
 | 1=>exact h
 | 2=>exact h
 | 3=>exact h
 | 4=>exact h
 | 5=>exact h
 | 6=>exact h
 | 7=>exact h
 | 8=>exact h
 | 9=>exact h
 | 10=>exact h
 | 11=>exact h
 | 12=>exact h
 | 13=>exact h
 | 14=>exact h
 | 15=>exact h
 | 16=>exact h
 | 17=>exact h
 | 18=>exact h
 | 19=>exact h
 | k+20=>trivial
theorem Zs9 (w:World) (c:Crw) (cs:List Value) (B:Nat) (own:List Int) (oo:Option Addr) (oc2:Nat) (os:List Opt) (po:Option Addr) (oc:Nat) (l:List Wsh) (wo:Option Addr) (wc:Nat) (ha:ArgC w c cs B) (hown:Zak Zbb w oo own) (hol:own.length≤1000000) (hl:Zak Zm0 w wo l) (hll:l.length≤1000000) (hos:Zak Zv2 w po os) (hnos:os.length≤1000000) :
  Calls Tryz.prog 37 #[.agg cs.toArray,.slice oo own.length oc2,.slice po os.length oc,.slice wo l.length wc] w fun e w'=>e = .returned (.tuple #[.int .i64 (Zs8 (Zxc c own l os)),.bool (Zxc c own l os).isSome])∧Below w.heap.size w w':=by
 have HKP0:=ħ (fun W (hW:Below w.heap.size w W) u=>Zhl W c cs B own oo oc2 u l wo wc (ha.below hW) (hown.below hW) hol (hl.below hW) hll)
 have HCW:=ħ (fun W (hW:Below w.heap.size w W)=>ha.crw.below hW)
 have HOW:=ħ (fun W (hW:Below w.heap.size w W)=>hos.below hW)
 have HRF:Hid (Zxc c own l os=if 32<os.length then none else Zkq c own l os 0 none):=ħ rfl
 have HGE:=ħ (fun i (hi:i<os.length)=>(⟨_,List.getElem?_eq_getElem hi⟩:∃ y,os[i]?=some y))
 have HGS:Hid (∀ i b x,os[i]?=some x→Zkq c own l (os.drop i) i b=Zkq c own l (os.drop (i+1)) (i+1) (Zps c own l i x b)):=ħ (fun i b x hx=>by
  have hi:=(List.getElem?_eq_some_iff.1 hx).1
  rw[List.drop_eq_getElem_cons hi,Zkq]
  rw[show os[i]=x from (List.getElem?_eq_some_iff.1 hx).2])
 have HGZ:Hid (∀ b,Zkq c own l (os.drop os.length) os.length b=b):=ħ (fun b=>by rw[List.drop_length];rfl)
 have HG0:Hid (Zkq c own l os 0 none=Zkq c own l (os.drop 0) 0 none):=ħ rfl
 have HAT:Hid (AtB os 0 none):=ħ (fun p h=>by cases h)
 have HAS:Hid (∀ i b x,AtB os i b→os[i]?=some x→AtB os (i+1) (Zps c own l i x b)):=ħ (fun i b x h hx=>h.step hx)
 have HSN:Hid (∀ i x b,Zh9 b x.k=false→Zps c own l i x b=b):=ħ (fun i x b h=>by unfold Zps;rw[h];rfl)
 have HSK:Hid (∀ i x b,Zh9 b x.k=true→Zc8 c own x.u l=true→Zps c own l i x b=some (i,x.k)):=ħ (fun i x b h h2=>by unfold Zps;rw[h,h2];rfl)
 have HSM:Hid (∀ i x b,Zc8 c own x.u l=false→Zps c own l i x b=b):=ħ (fun i x b h=>by unfold Zps;rw[h,Bool.and_false];rfl)
 generalize Zxc c own l os=RF at *
 obtain⟨qo,qc,mo,mc,uo,uc,rfl⟩:=ha.form
 generalize c.qs.length=qn at *
 generalize c.ms.length=mn at *
 generalize c.us.length=un at *
 have X1:Hid (Zaf (w.alloc (.cells #[.slice qo qn qc,.slice mo mn mc,.slice uo un uc] 26)) w.heap.size 26 [.slice qo qn qc,.slice mo mn mc,.slice uo un uc]):=ħ (heap_alloc_new w _)
 have B1:=ħ ((Below.refl w.heap.size w).alloc (Nat.le_refl _) (.cells #[.slice qo qn qc,.slice mo mn mc,.slice uo un uc] 26))
 have hnos':=hnos
 clear ha hown hl hos hol hll hnos
 generalize hno:os.length=no at *
 generalize own.length=nw at *
 generalize l.length=nl at *
 clear hno
 go_enter Tryz.func37,Tryz.ntmps37
 go_upto_region 1 with (fail)
 generalize w.alloc (.cells #[.slice qo qn qc,.slice mo mn mc,.slice uo un uc] 26)=w1 at *
 generalize ([.slice qo qn qc,.slice mo mn mc,.slice uo un uc]:List Value)=cs at *
 have BC1:Hid (Zpo w1 w.heap.size c cs):=ħ (And.intro X1.o (HCW.o w1 B1.o))
 by_cases h32:32<no
 ·have h32i:(32:Int)<no:=by omega
  have HE:Hid (RF=none):=ħ (by rw[HRF.o,if_pos h32])
  go_wp2_with fail
  go_ret2
  exact⟨by rw[HE.o];rfl,B1.o⟩
 ·have h32i:¬ (32:Int)<no:=by omega
  have HR0:Hid (Zkq c own l (os.drop 0) 0 none=RF):=ħ (by rw[HRF.o,if_neg h32];rfl)
  go_wp2_with fail
  go_loopw [18,10] (fun iv bv wr=>∃ (i:Nat) (b:Option (Nat×Int)),iv = .int .i64 i∧bv = .int .i64 (Zs8 b)∧i≤no∧Hid (Zkq c own l (os.drop i) i b=RF)∧Hid (AtB os i b)∧Hid (Zpo wr w.heap.size c cs)∧Hid (Below w.heap.size w wr)) (fun i _ _=>(no-intOf i).toNat)
  case atStart=>exact⟨0,none,rfl,rfl,by omega,HR0,HAT,BC1,B1⟩
  case round =>
   clear HR0 HAT BC1 B1 X1
   obtain⟨i,b,rfl,rfl,hi,HR,HAB,X2,B2⟩:=hrel
   have e2:IntKind.i64.wrap ((i:Int)+1)=((i+1:Nat):Int):=IntWalk.i64_in _ (by omega)
   by_cases hin:i<no
   ·have ii:(i:Int)<no:=by omega
    obtain⟨y,hy⟩:=HGE.o i hin
    have HY:=ħ hy
    obtain⟨g,off,hpo,hg,hlc⟩:=(HOW.o wr B2.o).at Zdf i y hy
    obtain⟨u,kc⟩:=y
    have l0:=hlc 0 _ rfl
    have l1:=hlc 1 _ rfl
    have l2:=hlc 2 _ rfl
    have l3:=hlc 3 _ rfl
    have l4:=hlc 4 _ rfl
    rw[Nat.add_zero] at l0
    subst hpo
    clear hlc hg hy
    have hl0:wr.cell? ⟨g,off+i*5,none⟩=some (.int .i64 u.q):=l0
    have hl1:wr.cell? ⟨g,off+i*5+1,none⟩=some (.int .i64 u.w):=l1
    have hl2:wr.cell? ⟨g,off+i*5+2,none⟩=some (.int .i64 u.f):=l2
    have hl3:wr.cell? ⟨g,off+i*5+3,none⟩=some (.int .i64 u.h):=l3
    have hl4:wr.cell? ⟨g,off+i*5+4,none⟩=some (.int .i64 kc):=l4
    clear l0 l1 l2 l3 l4
    have bx:=(Below.refl wr.heap.size wr).alloc (Nat.le_refl _) (.cells #[.int .i64 u.q,.int .i64 u.w,.int .i64 u.f,.int .i64 u.h,.int .i64 kc] 69)
    have Y3:Hid (Zaf (wr.alloc (.cells #[.int .i64 u.q,.int .i64 u.w,.int .i64 u.f,.int .i64 u.h,.int .i64 kc] 69)) wr.heap.size 69 [.int .i64 u.q,.int .i64 u.w,.int .i64 u.f,.int .i64 u.h,.int .i64 kc]):=ħ (heap_alloc_new _ _)
    have X3:=ħ (X2.o.below bx)
    have B3:=ħ (B2.o.trans (bx.mono B2.o.size))
    clear bx X2 B2
    go_upto_region 7 with (fail)
    clear hl0 hl1 hl2 hl3 hl4
    generalize wr.alloc (.cells #[.int .i64 u.q,.int .i64 u.w,.int .i64 u.f,.int .i64 u.h,.int .i64 kc] 69)=w3 at *
    generalize wr.heap.size=YB at *
    obtain⟨kk,hkk⟩:∃ kk,Zc8 c own u l=kk:=⟨_,rfl⟩
    have HKK:=ħ hkk
    have HKP:=ħ (fun W (hW:Below w3.heap.size w3 W)=>HKP0.o W (B3.o.trans (hW.mono B3.o.size)) u)
    rw[hkk] at HKP
    clear hkk
    have HBX:=ħ (fun W (hW:Below w3.heap.size w3 W)=>Y3.o.step hW)
    have HCB:=ħ (fun W (hW:Below w3.heap.size w3 W)=>X3.o.below hW)
    cases b with
    | none =>
     have HLB:Hid (Zh9 none (Opt.k ⟨u,kc⟩)=true):=ħ rfl
     refine Zap (Zkd 0 no oc oc2 nw wc nl YB g off (w.heap.size) oo wo cs u kc 0 kk) (by kernel_rfl) (Zl2 0 no oc oc2 nw wc nl YB g off (w.heap.size) oo wo cs u kc 0 kk) (Zbv (by kernel_rfl)) (Zd9 (by kernel_rfl)) (Zax (by kernel_rfl)) ?hs ?he
     case hs =>
      intro i o hi listed a' w' H hl2
      have hl3:=Zao hl2
      have hin:i<20:=(Array.getElem?_eq_some_iff.1 hi).1
      have hb:=ħ H.below
      have s1:=H.same 1 (Zai (by kernel_rfl))
      have s2:=H.same 2 (Zai (by kernel_rfl))
      have s3:=H.same 3 (Zai (by kernel_rfl))
      have s4:=H.same 4 (Zai (by kernel_rfl))
      have s10:=H.same 10 (Zai (by kernel_rfl))
      have s12:=H.same 12 (Zai (by kernel_rfl))
      have hdn:=H.done
      have hdf:=H.defers
      have hts:=H.tsize
      clear hl2 H
      obtain⟨t',df⟩:=a'
      obtain⟨f',rfl⟩:=Zxd t' hts
      have hdf':df=[]:=hdf
      subst hdf'
      have gs1:f' 1 = .slice oo nw oc2:=s1
      have gs2:f' 2 = .slice (some ⟨g,off,none⟩) no oc:=s2
      have gs3:f' 3 = .slice wo nl wc:=s3
      have gs4:f' 4 = .pointer (some ⟨(w.heap.size),0,none⟩):=s4
      have gs10:f' 10 = .int .i64 (-1):=s10
      have gs12:f' 12 = .pointer (some ⟨YB,0,none⟩):=s12
      clear s1 s2 s3 s4 s10 s12
      clear hdf hts
      have hcases:=Zek i hin
      clear hin
      rcases hcases with rfl | rfl | rfl | rfl | rfl | rfl | rfl | rfl | rfl | rfl | rfl | rfl | rfl | rfl | rfl | rfl | rfl | rfl | rfl | rfl
      ·obtain rfl:=Option.some.inj hi
       clear hdn hl3
       rw[gs10]
       clear gs1 gs2 gs3 gs4 gs10 gs12
       refine Zab rfl ?_
       go_wp2_with fail
       exact Zaa ⟨_,rfl,Below.refl _ _,rfl⟩
      ·obtain rfl:=Option.some.inj hi
       have dv0:f' 23 = .int .i64 (-1):=hdn 0 _ 23 rfl (hl3 0 (by rfl)) rfl
       clear hdn hl3
       rw[dv0]
       clear dv0 gs1 gs2 gs3 gs4 gs10 gs12
       refine Zab rfl ?_
       go_wp2_with fail
       exact Zaa ⟨_,rfl,Below.refl _ _,rfl⟩
      ·obtain rfl:=Option.some.inj hi
       have dv1:f' 24 = .bool true:=hdn 1 _ 24 rfl (hl3 1 (by rfl)) rfl
       clear hdn hl3
       rw[dv1]
       clear dv1 gs1 gs2 gs3 gs4 gs10 gs12
       refine Zab rfl ?_
       go_wp2_with fail
       exact Zaa ⟨_,rfl,Below.refl _ _,rfl⟩
      ·obtain rfl:=Option.some.inj hi
       have dv2:f' 25 = .bool true:=hdn 2 _ 25 rfl (hl3 2 (by rfl)) rfl
       clear hdn hl3
       rw[dv2]
       clear dv2 gs1 gs2 gs3 gs4 gs10 gs12
       refine Zab rfl ?_
       go_wp2_with fail
       exact Zaa ⟨_,rfl,Below.refl _ _,rfl⟩
      ·obtain rfl:=Option.some.inj hi
       have dv2:f' 25 = .bool true:=hdn 2 _ 25 rfl (hl3 2 (by rfl)) rfl
       clear hdn hl3
       rw[dv2]
       clear dv2 gs1 gs2 gs3 gs4 gs10 gs12
       refine Zab rfl ?_
       go_wp2_with fail
       exact Zaa ⟨_,rfl,Below.refl _ _,rfl⟩
      ·obtain rfl:=Option.some.inj hi
       have dv2:f' 25 = .bool true:=hdn 2 _ 25 rfl (hl3 2 (by rfl)) rfl
       clear hdn hl3
       rw[dv2]
       clear dv2 gs1 gs2 gs3 gs4 gs10 gs12
       refine Zab rfl ?_
       go_wp2_with fail
       exact Zaa ⟨_,rfl,Below.refl _ _,rfl⟩
      ·obtain rfl:=Option.some.inj hi
       have dv2:f' 25 = .bool true:=hdn 2 _ 25 rfl (hl3 2 (by rfl)) rfl
       clear hdn hl3
       rw[dv2]
       clear dv2 gs1 gs2 gs3 gs4 gs10 gs12
       refine Zab rfl ?_
       go_wp2_with fail
       exact Zaa ⟨_,rfl,Below.refl _ _,rfl⟩
      ·obtain rfl:=Option.some.inj hi
       have dv2:f' 25 = .bool true:=hdn 2 _ 25 rfl (hl3 2 (by rfl)) rfl
       clear hdn hl3
       rw[dv2]
       clear dv2 gs1 gs2 gs3 gs4 gs10 gs12
       refine Zab rfl ?_
       go_wp2_with fail
       exact Zaa ⟨_,rfl,Below.refl _ _,rfl⟩
      ·obtain rfl:=Option.some.inj hi
       have dv2:f' 25 = .bool true:=hdn 2 _ 25 rfl (hl3 2 (by rfl)) rfl
       clear hdn hl3
       rw[dv2]
       clear dv2 gs1 gs2 gs3 gs4 gs10 gs12
       refine Zab rfl ?_
       go_wp2_with fail
       exact Zaa ⟨_,rfl,Below.refl _ _,rfl⟩
      ·obtain rfl:=Option.some.inj hi
       have dv2:f' 25 = .bool true:=hdn 2 _ 25 rfl (hl3 2 (by rfl)) rfl
       clear hdn hl3
       rw[dv2]
       clear dv2 gs1 gs2 gs3 gs4 gs10 gs12
       refine Zab rfl ?_
       go_wp2_with fail
       exact Zaa ⟨_,rfl,Below.refl _ _,rfl⟩
      ·obtain rfl:=Option.some.inj hi
       have dv2:f' 25 = .bool true:=hdn 2 _ 25 rfl (hl3 2 (by rfl)) rfl
       clear hdn hl3
       rw[dv2]
       clear dv2 gs1 gs2 gs3 gs4 gs10 gs12
       refine Zab rfl ?_
       go_wp2_with fail
       exact Zaa ⟨_,rfl,Below.refl _ _,rfl⟩
      ·obtain rfl:=Option.some.inj hi
       have dv2:f' 25 = .bool true:=hdn 2 _ 25 rfl (hl3 2 (by rfl)) rfl
       have dv10:f' 33=undef:=hdn 10 _ 33 rfl (hl3 10 (by rfl)) rfl
       clear hdn hl3
       rw[dv2,dv10]
       clear dv2 dv10 gs1 gs2 gs3 gs4 gs10 gs12
       refine Zab rfl ?_
       go_wp2_with fail
       exact Zaa ⟨_,rfl,Below.refl _ _,rfl⟩
      ·obtain rfl:=Option.some.inj hi
       have dv11:f' 34 = .bool true:=hdn 11 _ 34 rfl (hl3 11 (by rfl)) rfl
       clear hdn hl3
       rw[dv11]
       clear dv11 gs1 gs2 gs3 gs4 gs10 gs12
       refine Zab rfl ?_
       go_wp2_with fail
       exact Zaa ⟨_,rfl,Below.refl _ _,rfl⟩
      ·obtain rfl:=Option.some.inj hi
       have dv12:f' 35 = .bool true:=hdn 12 _ 35 rfl (hl3 12 (by rfl)) rfl
       clear hdn hl3
       rw[gs4,dv12]
       clear dv12 gs1 gs2 gs3 gs4 gs10 gs12
       have X2:=HCB.o w' hb.o
       refine Zab rfl ?_
       go_wp2_with (refine Zbh (by rfl) 26 (.tmp 4) rfl (w.heap.size) ?x1 26 cs.toArray (0,0) _ X2.1 Tryz.underlying26 rfl X2.2.inf ?_;(case x1=>rfl))
       exact Zaa ⟨_,rfl,Below.refl _ _,rfl⟩
      ·obtain rfl:=Option.some.inj hi
       have dv12:f' 35 = .bool true:=hdn 12 _ 35 rfl (hl3 12 (by rfl)) rfl
       clear hdn hl3
       rw[gs1,dv12]
       clear dv12 gs1 gs2 gs3 gs4 gs10 gs12
       refine Zab rfl ?_
       go_wp2_with fail
       exact Zaa ⟨_,rfl,Below.refl _ _,rfl⟩
      ·obtain rfl:=Option.some.inj hi
       have dv12:f' 35 = .bool true:=hdn 12 _ 35 rfl (hl3 12 (by rfl)) rfl
       clear hdn hl3
       rw[gs12,dv12]
       clear dv12 gs1 gs2 gs3 gs4 gs10 gs12
       refine Zab rfl ?_
       go_wp2_with fail
       exact Zaa ⟨_,rfl,Below.refl _ _,rfl⟩
      ·obtain rfl:=Option.some.inj hi
       have dv15:f' 38 = .pointer (some ⟨YB,0,none⟩):=hdn 15 _ 38 rfl (hl3 15 (by rfl)) rfl
       have dv12:f' 35 = .bool true:=hdn 12 _ 35 rfl (hl3 12 (by rfl)) rfl
       clear hdn hl3
       rw[dv15,dv12]
       clear dv15 dv12 gs1 gs2 gs3 gs4 gs10 gs12
       have y0:=(HBX.o w' hb.o).cell 0 _ rfl
       have y1:=(HBX.o w' hb.o).cell 1 _ rfl
       have y2:=(HBX.o w' hb.o).cell 2 _ rfl
       have y3:=(HBX.o w' hb.o).cell 3 _ rfl
       refine Zab rfl ?_
       go_wp2_with fail
       exact Zaa ⟨_,rfl,Below.refl _ _,rfl⟩
      ·obtain rfl:=Option.some.inj hi
       have dv12:f' 35 = .bool true:=hdn 12 _ 35 rfl (hl3 12 (by rfl)) rfl
       clear hdn hl3
       rw[gs3,dv12]
       clear dv12 gs1 gs2 gs3 gs4 gs10 gs12
       refine Zab rfl ?_
       go_wp2_with fail
       exact Zaa ⟨_,rfl,Below.refl _ _,rfl⟩
      ·obtain rfl:=Option.some.inj hi
       have dv13:f' 36 = .agg cs.toArray:=hdn 13 _ 36 rfl (hl3 13 (by rfl)) rfl
       have dv14:f' 37 = .slice oo nw oc2:=hdn 14 _ 37 rfl (hl3 14 (by rfl)) rfl
       have dv16:f' 39 = .agg (Zbu u).toArray:=hdn 16 _ 39 rfl (hl3 16 (by rfl)) rfl
       have dv17:f' 40 = .slice wo nl wc:=hdn 17 _ 40 rfl (hl3 17 (by rfl)) rfl
       have dv12:f' 35 = .bool true:=hdn 12 _ 35 rfl (hl3 12 (by rfl)) rfl
       clear hdn hl3
       rw[dv13,dv14,dv16,dv17,dv12]
       clear dv13 dv14 dv16 dv17 dv12 gs1 gs2 gs3 gs4 gs10 gs12
       refine Zab rfl ?_
       go_wp2_with fail
       refine (HKP.o w' hb.o).mono ?_
       rintro e w4 ⟨rfl,b4⟩
       have HB4:=ħ b4
       clear b4
       go_wp2_with fail
       exact Zaa ⟨_,rfl,HB4.o,rfl⟩
      ·obtain rfl:=Option.some.inj hi
       have dv12:f' 35 = .bool true:=hdn 12 _ 35 rfl (hl3 12 (by rfl)) rfl
       have dv18:f' 41 = .bool kk:=hdn 18 _ 41 rfl (hl3 18 (by rfl)) rfl
       clear hdn hl3
       rw[dv12,dv18]
       clear dv12 dv18 gs1 gs2 gs3 gs4 gs10 gs12
       refine Zab rfl ?_
       go_wp2_with fail
       exact Zaa ⟨_,rfl,Below.refl _ _,rfl⟩
     case he =>
      intro listed a' w4 H hall
      have hd19:Zkd 0 no oc oc2 nw wc nl YB g off (w.heap.size) oo wo cs u kc 0 kk 19 w4 (a'.tmps.getD 42 undef):=H.done 19 _ 42 rfl (hall 19 (by decide)) rfl
      have hb4:=ħ H.below
      have hact:=H.act [23,24,25,26,27,28,29,30,31,32,33,34,35,36,37,38,39,40,41,42] (Zb8 (by kernel_rfl))
      clear H hall
      simp only[List.foldl_cons,List.foldl_nil] at hact
      generalize a'.tmps.getD 23 undef=z23 at *
      generalize a'.tmps.getD 24 undef=z24 at *
      generalize a'.tmps.getD 25 undef=z25 at *
      generalize a'.tmps.getD 26 undef=z26 at *
      generalize a'.tmps.getD 27 undef=z27 at *
      generalize a'.tmps.getD 28 undef=z28 at *
      generalize a'.tmps.getD 29 undef=z29 at *
      generalize a'.tmps.getD 30 undef=z30 at *
      generalize a'.tmps.getD 31 undef=z31 at *
      generalize a'.tmps.getD 32 undef=z32 at *
      generalize a'.tmps.getD 33 undef=z33 at *
      generalize a'.tmps.getD 34 undef=z34 at *
      generalize a'.tmps.getD 35 undef=z35 at *
      generalize a'.tmps.getD 36 undef=z36 at *
      generalize a'.tmps.getD 37 undef=z37 at *
      generalize a'.tmps.getD 38 undef=z38 at *
      generalize a'.tmps.getD 39 undef=z39 at *
      generalize a'.tmps.getD 40 undef=z40 at *
      generalize a'.tmps.getD 41 undef=z41 at *
      generalize a'.tmps.getD 42 undef=z42 at *
      subst hact
      have e19:z42 = .bool kk:=hd19
      subst e19
      clear hd19
      simp only[Act.put,List.setIfInBounds_toArray,List.set_cons_succ,List.set_cons_zero]
      have B4:=ħ (B3.o.trans (hb4.o.mono B3.o.size))
      have X4:=ħ (X3.o.below hb4.o)
      clear hb4 B3 X3 HBX HCB HKP
      cases kk with
      | true =>
       have HS:=ħ (HSK.o i ⟨u,kc⟩ (none) HLB.o HKK.o)
       have HR2:=ħ (show Zkq c own l (os.drop (i+1)) (i+1) (some (i,kc))=RF by rw[← HR.o,HGS.o i _ _ HY.o,HS.o])
       have HA2:=ħ (show AtB os (i+1) (some (i,kc)) by have:=HAS.o i _ _ HAB.o HY.o;rwa [HS.o] at this)
       go_wp2_with fail
       go_roundw
       case rel=>exact⟨i+1,some (i,kc),by go_num,rfl,by omega,HR2,HA2,X4,B4⟩
       case measure=>simp only[intOf];omega
      | false =>
       have HS:=ħ (HSM.o i ⟨u,kc⟩ (none) HKK.o)
       have HR2:=ħ (show Zkq c own l (os.drop (i+1)) (i+1) (none)=RF by rw[← HR.o,HGS.o i _ _ HY.o,HS.o])
       have HA2:=ħ (show AtB os (i+1) (none) by have:=HAS.o i _ _ HAB.o HY.o;rwa [HS.o] at this)
       go_wp2_with fail
       go_roundw
       case rel=>exact⟨i+1,none,by go_num,rfl,by omega,HR2,HA2,X4,B4⟩
       case measure=>simp only[intOf];omega
    | some p =>
     obtain⟨j,kb⟩:=p
     obtain⟨hji,⟨u5,k5⟩,hy5,h5⟩:=HAB.o _ rfl
     have HBC:=ħ (fun W (hW:Below w3.heap.size w3 W)=>by
      obtain⟨g5,o5,hp5,-,hr5⟩:=(HOW.o W (B3.o.trans (hW.mono B3.o.size))).at Zdf j _ hy5
      have h6:=hr5 4 _ rfl
      obtain⟨rfl,rfl⟩:g=g5∧off=o5:=by simpa using hp5
      have h7:k5=kb:=h5
      rw[h7] at h6
      exact (show W.cell? ⟨g,off+j*5+4,none⟩=some (.int .i64 kb) from h6))
     have HJN:=ħ (show ((j:Nat):Int)<no∧0≤((j:Nat):Int) by omega)
     have hjn:j<no:=by omega
     clear hy5 h5
     by_cases hk:kc<kb
     ·have HLT:=ħ (show kc<kb from hk)
      have HLB:Hid (Zh9 (some (j,kb)) (Opt.k ⟨u,kc⟩)=true):=ħ (decide_eq_true hk)
      refine Zap (Zke j no oc oc2 nw wc nl YB g off (w.heap.size) oo wo cs u kc kb kk) (by kernel_rfl) (Zl3 j no oc oc2 nw wc nl YB g off (w.heap.size) oo wo cs u kc kb kk) (Zbv (by kernel_rfl)) (Zd9 (by kernel_rfl)) (Zax (by kernel_rfl)) ?hs ?he
      case hs =>
       intro i o hi listed a' w' H hl2
       have hl3:=Zao hl2
       have hin:i<20:=(Array.getElem?_eq_some_iff.1 hi).1
       have hb:=ħ H.below
       have s1:=H.same 1 (Zai (by kernel_rfl))
       have s2:=H.same 2 (Zai (by kernel_rfl))
       have s3:=H.same 3 (Zai (by kernel_rfl))
       have s4:=H.same 4 (Zai (by kernel_rfl))
       have s10:=H.same 10 (Zai (by kernel_rfl))
       have s12:=H.same 12 (Zai (by kernel_rfl))
       have hdn:=H.done
       have hdf:=H.defers
       have hts:=H.tsize
       clear hl2 H
       obtain⟨t',df⟩:=a'
       obtain⟨f',rfl⟩:=Zxd t' hts
       have hdf':df=[]:=hdf
       subst hdf'
       have gs1:f' 1 = .slice oo nw oc2:=s1
       have gs2:f' 2 = .slice (some ⟨g,off,none⟩) no oc:=s2
       have gs3:f' 3 = .slice wo nl wc:=s3
       have gs4:f' 4 = .pointer (some ⟨(w.heap.size),0,none⟩):=s4
       have gs10:f' 10 = .int .i64 (j:Nat):=s10
       have gs12:f' 12 = .pointer (some ⟨YB,0,none⟩):=s12
       clear s1 s2 s3 s4 s10 s12
       clear hdf hts
       have hcases:=Zek i hin
       clear hin
       rcases hcases with rfl | rfl | rfl | rfl | rfl | rfl | rfl | rfl | rfl | rfl | rfl | rfl | rfl | rfl | rfl | rfl | rfl | rfl | rfl | rfl
       ·obtain rfl:=Option.some.inj hi
        clear hdn hl3
        rw[gs10]
        clear gs1 gs2 gs3 gs4 gs10 gs12
        refine Zab rfl ?_
        go_wp2_with fail
        exact Zaa ⟨_,rfl,Below.refl _ _,rfl⟩
       ·obtain rfl:=Option.some.inj hi
        have dv0:f' 23 = .int .i64 (j:Nat):=hdn 0 _ 23 rfl (hl3 0 (by rfl)) rfl
        clear hdn hl3
        rw[dv0]
        clear dv0 gs1 gs2 gs3 gs4 gs10 gs12
        have jj:¬ ((j:Nat):Int)<0:=by omega
        refine Zab rfl ?_
        go_wp2_with fail
        exact Zaa ⟨_,rfl,Below.refl _ _,rfl⟩
       ·obtain rfl:=Option.some.inj hi
        have dv1:f' 24 = .bool false:=hdn 1 _ 24 rfl (hl3 1 (by rfl)) rfl
        clear hdn hl3
        rw[dv1]
        clear dv1 gs1 gs2 gs3 gs4 gs10 gs12
        refine Zab rfl ?_
        go_wp2_with fail
        exact Zaa ⟨_,rfl,Below.refl _ _,rfl⟩
       ·obtain rfl:=Option.some.inj hi
        have dv2:f' 25 = .bool false:=hdn 2 _ 25 rfl (hl3 2 (by rfl)) rfl
        clear hdn hl3
        rw[gs12,dv2]
        clear dv2 gs1 gs2 gs3 gs4 gs10 gs12
        refine Zab rfl ?_
        go_wp2_with fail
        exact Zaa ⟨_,rfl,Below.refl _ _,rfl⟩
       ·obtain rfl:=Option.some.inj hi
        have dv3:f' 26 = .pointer (some ⟨YB,4,none⟩):=hdn 3 _ 26 rfl (hl3 3 (by rfl)) rfl
        have dv2:f' 25 = .bool false:=hdn 2 _ 25 rfl (hl3 2 (by rfl)) rfl
        clear hdn hl3
        rw[dv3,dv2]
        clear dv3 dv2 gs1 gs2 gs3 gs4 gs10 gs12
        have y4:=(HBX.o w' hb.o).cell 4 _ rfl
        refine Zab rfl ?_
        go_wp2_with fail
        exact Zaa ⟨_,rfl,Below.refl _ _,rfl⟩
       ·obtain rfl:=Option.some.inj hi
        have dv2:f' 25 = .bool false:=hdn 2 _ 25 rfl (hl3 2 (by rfl)) rfl
        clear hdn hl3
        rw[gs2,dv2]
        clear dv2 gs1 gs2 gs3 gs4 gs10 gs12
        refine Zab rfl ?_
        go_wp2_with fail
        exact Zaa ⟨_,rfl,Below.refl _ _,rfl⟩
       ·obtain rfl:=Option.some.inj hi
        have dv2:f' 25 = .bool false:=hdn 2 _ 25 rfl (hl3 2 (by rfl)) rfl
        clear hdn hl3
        rw[gs10,dv2]
        clear dv2 gs1 gs2 gs3 gs4 gs10 gs12
        refine Zab rfl ?_
        go_wp2_with fail
        exact Zaa ⟨_,rfl,Below.refl _ _,rfl⟩
       ·obtain rfl:=Option.some.inj hi
        have dv5:f' 28 = .slice (some ⟨g,off,none⟩) no oc:=hdn 5 _ 28 rfl (hl3 5 (by rfl)) rfl
        have dv6:f' 29 = .int .i64 (j:Nat):=hdn 6 _ 29 rfl (hl3 6 (by rfl)) rfl
        have dv2:f' 25 = .bool false:=hdn 2 _ 25 rfl (hl3 2 (by rfl)) rfl
        clear hdn hl3
        rw[dv5,dv6,dv2]
        clear dv5 dv6 dv2 gs1 gs2 gs3 gs4 gs10 gs12
        have jn:=HJN.o
        refine Zab rfl ?_
        go_wp2_with fail
        exact Zaa ⟨_,rfl,Below.refl _ _,rfl⟩
       ·obtain rfl:=Option.some.inj hi
        have dv7:f' 30 = .pointer (some ⟨g,off+j*5,none⟩):=hdn 7 _ 30 rfl (hl3 7 (by rfl)) rfl
        have dv2:f' 25 = .bool false:=hdn 2 _ 25 rfl (hl3 2 (by rfl)) rfl
        clear hdn hl3
        rw[dv7,dv2]
        clear dv7 dv2 gs1 gs2 gs3 gs4 gs10 gs12
        refine Zab rfl ?_
        go_wp2_with fail
        exact Zaa ⟨_,rfl,Below.refl _ _,rfl⟩
       ·obtain rfl:=Option.some.inj hi
        have dv8:f' 31 = .pointer (some ⟨g,off+j*5+4,none⟩):=hdn 8 _ 31 rfl (hl3 8 (by rfl)) rfl
        have dv2:f' 25 = .bool false:=hdn 2 _ 25 rfl (hl3 2 (by rfl)) rfl
        clear hdn hl3
        rw[dv8,dv2]
        clear dv8 dv2 gs1 gs2 gs3 gs4 gs10 gs12
        have z4:=HBC.o w' hb.o
        refine Zab rfl ?_
        go_wp2_with fail
        exact Zaa ⟨_,rfl,Below.refl _ _,rfl⟩
       ·obtain rfl:=Option.some.inj hi
        have dv4:f' 27 = .int .i64 kc:=hdn 4 _ 27 rfl (hl3 4 (by rfl)) rfl
        have dv9:f' 32 = .int .i64 kb:=hdn 9 _ 32 rfl (hl3 9 (by rfl)) rfl
        have dv2:f' 25 = .bool false:=hdn 2 _ 25 rfl (hl3 2 (by rfl)) rfl
        clear hdn hl3
        rw[dv4,dv9,dv2]
        clear dv4 dv9 dv2 gs1 gs2 gs3 gs4 gs10 gs12
        have hk:=HLT.o
        refine Zab rfl ?_
        go_wp2_with fail
        exact Zaa ⟨_,rfl,Below.refl _ _,rfl⟩
       ·obtain rfl:=Option.some.inj hi
        have dv2:f' 25 = .bool false:=hdn 2 _ 25 rfl (hl3 2 (by rfl)) rfl
        have dv10:f' 33 = .bool true:=hdn 10 _ 33 rfl (hl3 10 (by rfl)) rfl
        clear hdn hl3
        rw[dv2,dv10]
        clear dv2 dv10 gs1 gs2 gs3 gs4 gs10 gs12
        refine Zab rfl ?_
        go_wp2_with fail
        exact Zaa ⟨_,rfl,Below.refl _ _,rfl⟩
       ·obtain rfl:=Option.some.inj hi
        have dv11:f' 34 = .bool true:=hdn 11 _ 34 rfl (hl3 11 (by rfl)) rfl
        clear hdn hl3
        rw[dv11]
        clear dv11 gs1 gs2 gs3 gs4 gs10 gs12
        refine Zab rfl ?_
        go_wp2_with fail
        exact Zaa ⟨_,rfl,Below.refl _ _,rfl⟩
       ·obtain rfl:=Option.some.inj hi
        have dv12:f' 35 = .bool true:=hdn 12 _ 35 rfl (hl3 12 (by rfl)) rfl
        clear hdn hl3
        rw[gs4,dv12]
        clear dv12 gs1 gs2 gs3 gs4 gs10 gs12
        have X2:=HCB.o w' hb.o
        refine Zab rfl ?_
        go_wp2_with (refine Zbh (by rfl) 26 (.tmp 4) rfl (w.heap.size) ?x1 26 cs.toArray (0,0) _ X2.1 Tryz.underlying26 rfl X2.2.inf ?_;(case x1=>rfl))
        exact Zaa ⟨_,rfl,Below.refl _ _,rfl⟩
       ·obtain rfl:=Option.some.inj hi
        have dv12:f' 35 = .bool true:=hdn 12 _ 35 rfl (hl3 12 (by rfl)) rfl
        clear hdn hl3
        rw[gs1,dv12]
        clear dv12 gs1 gs2 gs3 gs4 gs10 gs12
        refine Zab rfl ?_
        go_wp2_with fail
        exact Zaa ⟨_,rfl,Below.refl _ _,rfl⟩
       ·obtain rfl:=Option.some.inj hi
        have dv12:f' 35 = .bool true:=hdn 12 _ 35 rfl (hl3 12 (by rfl)) rfl
        clear hdn hl3
        rw[gs12,dv12]
        clear dv12 gs1 gs2 gs3 gs4 gs10 gs12
        refine Zab rfl ?_
        go_wp2_with fail
        exact Zaa ⟨_,rfl,Below.refl _ _,rfl⟩
       ·obtain rfl:=Option.some.inj hi
        have dv15:f' 38 = .pointer (some ⟨YB,0,none⟩):=hdn 15 _ 38 rfl (hl3 15 (by rfl)) rfl
        have dv12:f' 35 = .bool true:=hdn 12 _ 35 rfl (hl3 12 (by rfl)) rfl
        clear hdn hl3
        rw[dv15,dv12]
        clear dv15 dv12 gs1 gs2 gs3 gs4 gs10 gs12
        have y0:=(HBX.o w' hb.o).cell 0 _ rfl
        have y1:=(HBX.o w' hb.o).cell 1 _ rfl
        have y2:=(HBX.o w' hb.o).cell 2 _ rfl
        have y3:=(HBX.o w' hb.o).cell 3 _ rfl
        refine Zab rfl ?_
        go_wp2_with fail
        exact Zaa ⟨_,rfl,Below.refl _ _,rfl⟩
       ·obtain rfl:=Option.some.inj hi
        have dv12:f' 35 = .bool true:=hdn 12 _ 35 rfl (hl3 12 (by rfl)) rfl
        clear hdn hl3
        rw[gs3,dv12]
        clear dv12 gs1 gs2 gs3 gs4 gs10 gs12
        refine Zab rfl ?_
        go_wp2_with fail
        exact Zaa ⟨_,rfl,Below.refl _ _,rfl⟩
       ·obtain rfl:=Option.some.inj hi
        have dv13:f' 36 = .agg cs.toArray:=hdn 13 _ 36 rfl (hl3 13 (by rfl)) rfl
        have dv14:f' 37 = .slice oo nw oc2:=hdn 14 _ 37 rfl (hl3 14 (by rfl)) rfl
        have dv16:f' 39 = .agg (Zbu u).toArray:=hdn 16 _ 39 rfl (hl3 16 (by rfl)) rfl
        have dv17:f' 40 = .slice wo nl wc:=hdn 17 _ 40 rfl (hl3 17 (by rfl)) rfl
        have dv12:f' 35 = .bool true:=hdn 12 _ 35 rfl (hl3 12 (by rfl)) rfl
        clear hdn hl3
        rw[dv13,dv14,dv16,dv17,dv12]
        clear dv13 dv14 dv16 dv17 dv12 gs1 gs2 gs3 gs4 gs10 gs12
        refine Zab rfl ?_
        go_wp2_with fail
        refine (HKP.o w' hb.o).mono ?_
        rintro e w4 ⟨rfl,b4⟩
        have HB4:=ħ b4
        clear b4
        go_wp2_with fail
        exact Zaa ⟨_,rfl,HB4.o,rfl⟩
       ·obtain rfl:=Option.some.inj hi
        have dv12:f' 35 = .bool true:=hdn 12 _ 35 rfl (hl3 12 (by rfl)) rfl
        have dv18:f' 41 = .bool kk:=hdn 18 _ 41 rfl (hl3 18 (by rfl)) rfl
        clear hdn hl3
        rw[dv12,dv18]
        clear dv12 dv18 gs1 gs2 gs3 gs4 gs10 gs12
        refine Zab rfl ?_
        go_wp2_with fail
        exact Zaa ⟨_,rfl,Below.refl _ _,rfl⟩
      case he =>
       intro listed a' w4 H hall
       have hd19:Zke j no oc oc2 nw wc nl YB g off (w.heap.size) oo wo cs u kc kb kk 19 w4 (a'.tmps.getD 42 undef):=H.done 19 _ 42 rfl (hall 19 (by decide)) rfl
       have hb4:=ħ H.below
       have hact:=H.act [23,24,25,26,27,28,29,30,31,32,33,34,35,36,37,38,39,40,41,42] (Zb8 (by kernel_rfl))
       clear H hall
       simp only[List.foldl_cons,List.foldl_nil] at hact
       generalize a'.tmps.getD 23 undef=z23 at *
       generalize a'.tmps.getD 24 undef=z24 at *
       generalize a'.tmps.getD 25 undef=z25 at *
       generalize a'.tmps.getD 26 undef=z26 at *
       generalize a'.tmps.getD 27 undef=z27 at *
       generalize a'.tmps.getD 28 undef=z28 at *
       generalize a'.tmps.getD 29 undef=z29 at *
       generalize a'.tmps.getD 30 undef=z30 at *
       generalize a'.tmps.getD 31 undef=z31 at *
       generalize a'.tmps.getD 32 undef=z32 at *
       generalize a'.tmps.getD 33 undef=z33 at *
       generalize a'.tmps.getD 34 undef=z34 at *
       generalize a'.tmps.getD 35 undef=z35 at *
       generalize a'.tmps.getD 36 undef=z36 at *
       generalize a'.tmps.getD 37 undef=z37 at *
       generalize a'.tmps.getD 38 undef=z38 at *
       generalize a'.tmps.getD 39 undef=z39 at *
       generalize a'.tmps.getD 40 undef=z40 at *
       generalize a'.tmps.getD 41 undef=z41 at *
       generalize a'.tmps.getD 42 undef=z42 at *
       subst hact
       have e19:z42 = .bool kk:=hd19
       subst e19
       clear hd19
       simp only[Act.put,List.setIfInBounds_toArray,List.set_cons_succ,List.set_cons_zero]
       have B4:=ħ (B3.o.trans (hb4.o.mono B3.o.size))
       have X4:=ħ (X3.o.below hb4.o)
       clear hb4 B3 X3 HBX HCB HKP
       cases kk with
       | true =>
        have HS:=ħ (HSK.o i ⟨u,kc⟩ (some (j,kb)) HLB.o HKK.o)
        have HR2:=ħ (show Zkq c own l (os.drop (i+1)) (i+1) (some (i,kc))=RF by rw[← HR.o,HGS.o i _ _ HY.o,HS.o])
        have HA2:=ħ (show AtB os (i+1) (some (i,kc)) by have:=HAS.o i _ _ HAB.o HY.o;rwa [HS.o] at this)
        go_wp2_with fail
        go_roundw
        case rel=>exact⟨i+1,some (i,kc),by go_num,rfl,by omega,HR2,HA2,X4,B4⟩
        case measure=>simp only[intOf];omega
       | false =>
        have HS:=ħ (HSM.o i ⟨u,kc⟩ (some (j,kb)) HKK.o)
        have HR2:=ħ (show Zkq c own l (os.drop (i+1)) (i+1) (some (j,kb))=RF by rw[← HR.o,HGS.o i _ _ HY.o,HS.o])
        have HA2:=ħ (show AtB os (i+1) (some (j,kb)) by have:=HAS.o i _ _ HAB.o HY.o;rwa [HS.o] at this)
        go_wp2_with fail
        go_roundw
        case rel=>exact⟨i+1,some (j,kb),by go_num,rfl,by omega,HR2,HA2,X4,B4⟩
        case measure=>simp only[intOf];omega
     ·have HLT:=ħ (show ¬ kc<kb from hk)
      have HLB:Hid (Zh9 (some (j,kb)) (Opt.k ⟨u,kc⟩)=false):=ħ (decide_eq_false hk)
      refine Zap (Zoh j no oc oc2 nw wc nl YB g off (w.heap.size) oo wo cs u kc kb kk) (by kernel_rfl) (Zm5 j no oc oc2 nw wc nl YB g off (w.heap.size) oo wo cs u kc kb kk) (Zbv (by kernel_rfl)) (Zd9 (by kernel_rfl)) (Zax (by kernel_rfl)) ?hs ?he
      case hs =>
       intro i o hi listed a' w' H hl2
       have hl3:=Zao hl2
       have hin:i<20:=(Array.getElem?_eq_some_iff.1 hi).1
       have hb:=ħ H.below
       have s1:=H.same 1 (Zai (by kernel_rfl))
       have s2:=H.same 2 (Zai (by kernel_rfl))
       have s3:=H.same 3 (Zai (by kernel_rfl))
       have s4:=H.same 4 (Zai (by kernel_rfl))
       have s10:=H.same 10 (Zai (by kernel_rfl))
       have s12:=H.same 12 (Zai (by kernel_rfl))
       have hdn:=H.done
       have hdf:=H.defers
       have hts:=H.tsize
       clear hl2 H
       obtain⟨t',df⟩:=a'
       obtain⟨f',rfl⟩:=Zxd t' hts
       have hdf':df=[]:=hdf
       subst hdf'
       have gs1:f' 1 = .slice oo nw oc2:=s1
       have gs2:f' 2 = .slice (some ⟨g,off,none⟩) no oc:=s2
       have gs3:f' 3 = .slice wo nl wc:=s3
       have gs4:f' 4 = .pointer (some ⟨(w.heap.size),0,none⟩):=s4
       have gs10:f' 10 = .int .i64 (j:Nat):=s10
       have gs12:f' 12 = .pointer (some ⟨YB,0,none⟩):=s12
       clear s1 s2 s3 s4 s10 s12
       clear hdf hts
       have hcases:=Zek i hin
       clear hin
       rcases hcases with rfl | rfl | rfl | rfl | rfl | rfl | rfl | rfl | rfl | rfl | rfl | rfl | rfl | rfl | rfl | rfl | rfl | rfl | rfl | rfl
       ·obtain rfl:=Option.some.inj hi
        clear hdn hl3
        rw[gs10]
        clear gs1 gs2 gs3 gs4 gs10 gs12
        refine Zab rfl ?_
        go_wp2_with fail
        exact Zaa ⟨_,rfl,Below.refl _ _,rfl⟩
       ·obtain rfl:=Option.some.inj hi
        have dv0:f' 23 = .int .i64 (j:Nat):=hdn 0 _ 23 rfl (hl3 0 (by rfl)) rfl
        clear hdn hl3
        rw[dv0]
        clear dv0 gs1 gs2 gs3 gs4 gs10 gs12
        have jj:¬ ((j:Nat):Int)<0:=by omega
        refine Zab rfl ?_
        go_wp2_with fail
        exact Zaa ⟨_,rfl,Below.refl _ _,rfl⟩
       ·obtain rfl:=Option.some.inj hi
        have dv1:f' 24 = .bool false:=hdn 1 _ 24 rfl (hl3 1 (by rfl)) rfl
        clear hdn hl3
        rw[dv1]
        clear dv1 gs1 gs2 gs3 gs4 gs10 gs12
        refine Zab rfl ?_
        go_wp2_with fail
        exact Zaa ⟨_,rfl,Below.refl _ _,rfl⟩
       ·obtain rfl:=Option.some.inj hi
        have dv2:f' 25 = .bool false:=hdn 2 _ 25 rfl (hl3 2 (by rfl)) rfl
        clear hdn hl3
        rw[gs12,dv2]
        clear dv2 gs1 gs2 gs3 gs4 gs10 gs12
        refine Zab rfl ?_
        go_wp2_with fail
        exact Zaa ⟨_,rfl,Below.refl _ _,rfl⟩
       ·obtain rfl:=Option.some.inj hi
        have dv3:f' 26 = .pointer (some ⟨YB,4,none⟩):=hdn 3 _ 26 rfl (hl3 3 (by rfl)) rfl
        have dv2:f' 25 = .bool false:=hdn 2 _ 25 rfl (hl3 2 (by rfl)) rfl
        clear hdn hl3
        rw[dv3,dv2]
        clear dv3 dv2 gs1 gs2 gs3 gs4 gs10 gs12
        have y4:=(HBX.o w' hb.o).cell 4 _ rfl
        refine Zab rfl ?_
        go_wp2_with fail
        exact Zaa ⟨_,rfl,Below.refl _ _,rfl⟩
       ·obtain rfl:=Option.some.inj hi
        have dv2:f' 25 = .bool false:=hdn 2 _ 25 rfl (hl3 2 (by rfl)) rfl
        clear hdn hl3
        rw[gs2,dv2]
        clear dv2 gs1 gs2 gs3 gs4 gs10 gs12
        refine Zab rfl ?_
        go_wp2_with fail
        exact Zaa ⟨_,rfl,Below.refl _ _,rfl⟩
       ·obtain rfl:=Option.some.inj hi
        have dv2:f' 25 = .bool false:=hdn 2 _ 25 rfl (hl3 2 (by rfl)) rfl
        clear hdn hl3
        rw[gs10,dv2]
        clear dv2 gs1 gs2 gs3 gs4 gs10 gs12
        refine Zab rfl ?_
        go_wp2_with fail
        exact Zaa ⟨_,rfl,Below.refl _ _,rfl⟩
       ·obtain rfl:=Option.some.inj hi
        have dv5:f' 28 = .slice (some ⟨g,off,none⟩) no oc:=hdn 5 _ 28 rfl (hl3 5 (by rfl)) rfl
        have dv6:f' 29 = .int .i64 (j:Nat):=hdn 6 _ 29 rfl (hl3 6 (by rfl)) rfl
        have dv2:f' 25 = .bool false:=hdn 2 _ 25 rfl (hl3 2 (by rfl)) rfl
        clear hdn hl3
        rw[dv5,dv6,dv2]
        clear dv5 dv6 dv2 gs1 gs2 gs3 gs4 gs10 gs12
        have jn:=HJN.o
        refine Zab rfl ?_
        go_wp2_with fail
        exact Zaa ⟨_,rfl,Below.refl _ _,rfl⟩
       ·obtain rfl:=Option.some.inj hi
        have dv7:f' 30 = .pointer (some ⟨g,off+j*5,none⟩):=hdn 7 _ 30 rfl (hl3 7 (by rfl)) rfl
        have dv2:f' 25 = .bool false:=hdn 2 _ 25 rfl (hl3 2 (by rfl)) rfl
        clear hdn hl3
        rw[dv7,dv2]
        clear dv7 dv2 gs1 gs2 gs3 gs4 gs10 gs12
        refine Zab rfl ?_
        go_wp2_with fail
        exact Zaa ⟨_,rfl,Below.refl _ _,rfl⟩
       ·obtain rfl:=Option.some.inj hi
        have dv8:f' 31 = .pointer (some ⟨g,off+j*5+4,none⟩):=hdn 8 _ 31 rfl (hl3 8 (by rfl)) rfl
        have dv2:f' 25 = .bool false:=hdn 2 _ 25 rfl (hl3 2 (by rfl)) rfl
        clear hdn hl3
        rw[dv8,dv2]
        clear dv8 dv2 gs1 gs2 gs3 gs4 gs10 gs12
        have z4:=HBC.o w' hb.o
        refine Zab rfl ?_
        go_wp2_with fail
        exact Zaa ⟨_,rfl,Below.refl _ _,rfl⟩
       ·obtain rfl:=Option.some.inj hi
        have dv4:f' 27 = .int .i64 kc:=hdn 4 _ 27 rfl (hl3 4 (by rfl)) rfl
        have dv9:f' 32 = .int .i64 kb:=hdn 9 _ 32 rfl (hl3 9 (by rfl)) rfl
        have dv2:f' 25 = .bool false:=hdn 2 _ 25 rfl (hl3 2 (by rfl)) rfl
        clear hdn hl3
        rw[dv4,dv9,dv2]
        clear dv4 dv9 dv2 gs1 gs2 gs3 gs4 gs10 gs12
        have hk:=HLT.o
        refine Zab rfl ?_
        go_wp2_with fail
        exact Zaa ⟨_,rfl,Below.refl _ _,rfl⟩
       ·obtain rfl:=Option.some.inj hi
        have dv2:f' 25 = .bool false:=hdn 2 _ 25 rfl (hl3 2 (by rfl)) rfl
        have dv10:f' 33 = .bool false:=hdn 10 _ 33 rfl (hl3 10 (by rfl)) rfl
        clear hdn hl3
        rw[dv2,dv10]
        clear dv2 dv10 gs1 gs2 gs3 gs4 gs10 gs12
        refine Zab rfl ?_
        go_wp2_with fail
        exact Zaa ⟨_,rfl,Below.refl _ _,rfl⟩
       ·obtain rfl:=Option.some.inj hi
        have dv11:f' 34 = .bool false:=hdn 11 _ 34 rfl (hl3 11 (by rfl)) rfl
        clear hdn hl3
        rw[dv11]
        clear dv11 gs1 gs2 gs3 gs4 gs10 gs12
        refine Zab rfl ?_
        go_wp2_with fail
        exact Zaa ⟨_,rfl,Below.refl _ _,rfl⟩
       ·obtain rfl:=Option.some.inj hi
        have dv12:f' 35 = .bool false:=hdn 12 _ 35 rfl (hl3 12 (by rfl)) rfl
        clear hdn hl3
        rw[dv12]
        clear dv12 gs1 gs2 gs3 gs4 gs10 gs12
        refine Zab rfl ?_
        go_wp2_with fail
        exact Zaa ⟨_,rfl,Below.refl _ _,rfl⟩
       ·obtain rfl:=Option.some.inj hi
        have dv12:f' 35 = .bool false:=hdn 12 _ 35 rfl (hl3 12 (by rfl)) rfl
        clear hdn hl3
        rw[dv12]
        clear dv12 gs1 gs2 gs3 gs4 gs10 gs12
        refine Zab rfl ?_
        go_wp2_with fail
        exact Zaa ⟨_,rfl,Below.refl _ _,rfl⟩
       ·obtain rfl:=Option.some.inj hi
        have dv12:f' 35 = .bool false:=hdn 12 _ 35 rfl (hl3 12 (by rfl)) rfl
        clear hdn hl3
        rw[dv12]
        clear dv12 gs1 gs2 gs3 gs4 gs10 gs12
        refine Zab rfl ?_
        go_wp2_with fail
        exact Zaa ⟨_,rfl,Below.refl _ _,rfl⟩
       ·obtain rfl:=Option.some.inj hi
        have dv12:f' 35 = .bool false:=hdn 12 _ 35 rfl (hl3 12 (by rfl)) rfl
        clear hdn hl3
        rw[dv12]
        clear dv12 gs1 gs2 gs3 gs4 gs10 gs12
        refine Zab rfl ?_
        go_wp2_with fail
        exact Zaa ⟨_,rfl,Below.refl _ _,rfl⟩
       ·obtain rfl:=Option.some.inj hi
        have dv12:f' 35 = .bool false:=hdn 12 _ 35 rfl (hl3 12 (by rfl)) rfl
        clear hdn hl3
        rw[dv12]
        clear dv12 gs1 gs2 gs3 gs4 gs10 gs12
        refine Zab rfl ?_
        go_wp2_with fail
        exact Zaa ⟨_,rfl,Below.refl _ _,rfl⟩
       ·obtain rfl:=Option.some.inj hi
        have dv12:f' 35 = .bool false:=hdn 12 _ 35 rfl (hl3 12 (by rfl)) rfl
        clear hdn hl3
        rw[dv12]
        clear dv12 gs1 gs2 gs3 gs4 gs10 gs12
        refine Zab rfl ?_
        go_wp2_with fail
        exact Zaa ⟨_,rfl,Below.refl _ _,rfl⟩
       ·obtain rfl:=Option.some.inj hi
        have dv12:f' 35 = .bool false:=hdn 12 _ 35 rfl (hl3 12 (by rfl)) rfl
        have dv18:f' 41=undef:=hdn 18 _ 41 rfl (hl3 18 (by rfl)) rfl
        clear hdn hl3
        rw[dv12,dv18]
        clear dv12 dv18 gs1 gs2 gs3 gs4 gs10 gs12
        refine Zab rfl ?_
        go_wp2_with fail
        exact Zaa ⟨_,rfl,Below.refl _ _,rfl⟩
      case he =>
       intro listed a' w4 H hall
       have hd19:Zoh j no oc oc2 nw wc nl YB g off (w.heap.size) oo wo cs u kc kb kk 19 w4 (a'.tmps.getD 42 undef):=H.done 19 _ 42 rfl (hall 19 (by decide)) rfl
       have hb4:=ħ H.below
       have hact:=H.act [23,24,25,26,27,28,29,30,31,32,33,34,35,36,37,38,39,40,41,42] (Zb8 (by kernel_rfl))
       clear H hall
       simp only[List.foldl_cons,List.foldl_nil] at hact
       generalize a'.tmps.getD 23 undef=z23 at *
       generalize a'.tmps.getD 24 undef=z24 at *
       generalize a'.tmps.getD 25 undef=z25 at *
       generalize a'.tmps.getD 26 undef=z26 at *
       generalize a'.tmps.getD 27 undef=z27 at *
       generalize a'.tmps.getD 28 undef=z28 at *
       generalize a'.tmps.getD 29 undef=z29 at *
       generalize a'.tmps.getD 30 undef=z30 at *
       generalize a'.tmps.getD 31 undef=z31 at *
       generalize a'.tmps.getD 32 undef=z32 at *
       generalize a'.tmps.getD 33 undef=z33 at *
       generalize a'.tmps.getD 34 undef=z34 at *
       generalize a'.tmps.getD 35 undef=z35 at *
       generalize a'.tmps.getD 36 undef=z36 at *
       generalize a'.tmps.getD 37 undef=z37 at *
       generalize a'.tmps.getD 38 undef=z38 at *
       generalize a'.tmps.getD 39 undef=z39 at *
       generalize a'.tmps.getD 40 undef=z40 at *
       generalize a'.tmps.getD 41 undef=z41 at *
       generalize a'.tmps.getD 42 undef=z42 at *
       subst hact
       have e19:z42 = .bool false:=hd19
       subst e19
       clear hd19
       simp only[Act.put,List.setIfInBounds_toArray,List.set_cons_succ,List.set_cons_zero]
       have B4:=ħ (B3.o.trans (hb4.o.mono B3.o.size))
       have X4:=ħ (X3.o.below hb4.o)
       clear hb4 B3 X3 HBX HCB HKP
       have HR2:=ħ (show Zkq c own l (os.drop (i+1)) (i+1) (some (j,kb))=RF by rw[← HR.o,HGS.o i _ _ HY.o,HSN.o i _ _ HLB.o])
       have HA2:=ħ (show AtB os (i+1) (some (j,kb)) by have:=HAS.o i _ _ HAB.o HY.o;rwa [HSN.o i _ _ HLB.o] at this)
       go_wp2_with fail
       go_roundw
       case rel=>exact⟨i+1,some (j,kb),by go_num,rfl,by omega,HR2,HA2,X4,B4⟩
       case measure=>simp only[intOf];omega
   ·have ii:¬ (i:Int)<no:=by omega
    obtain rfl:no=i:=by omega
    have HE:Hid (RF=b):=ħ (by rw[← HR.o];exact HGZ.o b)
    cases b with
    | none =>
     go_wp2_with fail
     go_ret2
     exact⟨by rw[HE.o];rfl,B2.o⟩
    | some p =>
     obtain⟨j,kb⟩:=p
     have jj:0≤((j:Nat):Int):=by omega
     have hbv:Zs8 (some (j,kb))=(j:Int):=rfl
     rw[hbv]
     go_wp2_with fail
     go_ret2
     exact⟨by rw[HE.o];rfl,B2.o⟩
end
section
open Go.RowKit Go.Sort Go.Maps
def Zpt (c:Crw) (own:List Int) (l:List Wsh) (os:List Opt) (i:Nat) (b:Option (Nat×Int)):Prop:=match b with
 | none=>∀ n o,n<i→os[n]?=some o→Zc8 c own o.u l=false
 | some p=>(p.1<i∧∃ o,os[p.1]?=some o∧o.k=p.2∧Zc8 c own o.u l=true)∧∀ n o,n<i→os[n]?=some o→Zc8 c own o.u l=true→p.2≤o.k∧(o.k=p.2→p.1≤n)
theorem Zpt.step {c:Crw} {own:List Int} {l:List Wsh} {os:List Opt} {i:Nat} {b:Option (Nat×Int)} {o:Opt} (h:Zpt c own l os i b) (ho:os[i]?=some o):Zpt c own l os (i+1) (Zps c own l i o b):=by
 have hlast:∀ n x,n<i+1→os[n]?=some x→(n<i∧os[n]?=some x)∨(n=i∧x=o):=by
  intro n x hn hx
  by_cases h1:n<i
  ·exact .inl ⟨h1,hx⟩
  ·obtain rfl:n=i:=by omega
   exact .inr ⟨rfl,Option.some.inj (hx.symm.trans ho)⟩
 unfold Zps
 cases hk:Zc8 c own o.u l with
 | false =>
  rw[Bool.and_false,if_neg (by decide)]
  cases b with
  | none =>
   intro n x hn hx
   rcases hlast n x hn hx with h1 | ⟨-,rfl⟩
   ·exact h n x h1.1 h1.2
   ·exact hk
  | some p =>
   obtain⟨⟨h1,h2⟩,h3⟩:=h
   refine⟨⟨by omega,h2⟩,fun n x hn hx hkx=>?_⟩
   rcases hlast n x hn hx with h4 | ⟨-,rfl⟩
   ·exact h3 n x h4.1 h4.2 hkx
   ·rw[hk] at hkx;cases hkx
 | true =>
  rw[Bool.and_true]
  cases b with
  | none =>
   rw[show Zh9 none o.k=true from rfl,if_pos rfl]
   refine⟨⟨by omega,o,ho,rfl,hk⟩,fun n x hn hx hkx=>?_⟩
   rcases hlast n x hn hx with h1 | ⟨rfl,rfl⟩
   ·rw[h n x h1.1 h1.2] at hkx;cases hkx
   ·exact⟨Int.le_refl _,fun _=>Nat.le_refl _⟩
  | some p =>
   obtain⟨⟨h1,h2⟩,h3⟩:=h
   by_cases hl:o.k<p.2
   ·rw[show Zh9 (some p) o.k=true from decide_eq_true hl,if_pos rfl]
    refine⟨⟨by omega,o,ho,rfl,hk⟩,fun n x hn hx hkx=>?_⟩
    rcases hlast n x hn hx with h4 | ⟨rfl,rfl⟩
    ·have:=h3 n x h4.1 h4.2 hkx
     exact⟨by show o.k≤x.k;omega,fun e=>by have e':x.k=o.k:=e;omega⟩
    ·exact⟨Int.le_refl _,fun _=>Nat.le_refl _⟩
   ·rw[show Zh9 (some p) o.k=false from decide_eq_false hl,if_neg (by decide)]
    refine⟨⟨by omega,h2⟩,fun n x hn hx hkx=>?_⟩
    rcases hlast n x hn hx with h4 | ⟨rfl,rfl⟩
    ·exact h3 n x h4.1 h4.2 hkx
    ·exact⟨by omega,fun _=>by omega⟩
theorem Zl4 {c:Crw} {own:List Int} {l:List Wsh} {os:List Opt}:∀ (k i:Nat) (b:Option (Nat×Int)),os.length-i=k→i≤os.length→Zpt c own l os i b→Zpt c own l os os.length (Zkq c own l (os.drop i) i b)
 | 0,i,b,hk,hi,h=>by
  obtain rfl:i=os.length:=by omega
  rw[List.drop_length];exact h
 | k+1,i,b,hk,hi,h=>by
  have hlt:i<os.length:=by omega
  rw[List.drop_eq_getElem_cons hlt,Zkq]
  exact Zl4 k (i+1) _ (by omega) (by omega) (h.step (List.getElem?_eq_getElem hlt))
theorem Zta (c:Crw) (own:List Int) (l:List Wsh) (os:List Opt) (h:os.length≤32):Zpt c own l os os.length (Zxc c own l os):=by
 unfold Zxc
 rw[if_neg (by omega)]
 have:=Zl4 (c:=c) (own:=own) (l:=l) (os:=os) os.length 0 none rfl (Nat.zero_le _) (fun n o hn=>absurd hn (Nat.not_lt_zero _))
 rwa [List.drop_zero] at this
theorem Zvo (w:World) (oo wo po:Option Addr) (nw oc nl wc no pc:Nat) (h1:nw≤9223372036854775807) (h2:nl≤9223372036854775807) (h3:no≤9223372036854775807) :
  Calls Tryz.prog 31 #[.slice oo nw oc,.slice wo nl wc,.slice po no pc] w fun e w'=>e = .returned (.bool (decide (nw≤8)&&(decide (nl≤5)&&decide (no≤34))))∧w=w':=by
 go_enter Tryz.func31,Tryz.ntmps31
 by_cases a:nw≤8
 ·have a':(nw:Int)≤8:=by omega
  by_cases b:nl≤5
  ·have b':(nl:Int)≤5:=by omega
   by_cases c:no≤34
   ·have c':(no:Int)≤34:=by omega
    go_wp2
    go_ret
    exact⟨Zac (by simp[a,b,c]),rfl⟩
   ·have c':¬ (no:Int)≤34:=by omega
    go_wp2
    go_ret
    exact⟨Zac (by simp[a,b,c]),rfl⟩
  ·have b':¬ (nl:Int)≤5:=by omega
   go_wp2
   go_ret
   exact⟨Zac (by simp[a,b]),rfl⟩
 ·have a':¬ (nw:Int)≤8:=by omega
  go_wp2
  go_ret
  exact⟨Zac (by simp[a]),rfl⟩
theorem Zv3 (t:Array Value) (h:t.size=127):∃ f:Nat→Value,t=#[f 0,f 1,f 2,f 3,f 4,f 5,f 6,f 7,f 8,f 9,f 10,f 11,f 12,f 13,f 14,f 15,f 16,f 17,f 18,f 19,f 20,f 21,f 22,f 23,f 24,f 25,f 26,f 27,f 28,f 29,f 30,f 31,f 32,f 33,f 34,f 35,f 36,f 37,f 38,f 39,f 40,f 41,f 42,f 43,f 44,f 45,f 46,f 47,f 48,f 49,f 50,f 51,f 52,f 53,f 54,f 55,f 56,f 57,f 58,f 59,f 60,f 61,f 62,f 63,f 64,f 65,f 66,f 67,f 68,f 69,f 70,f 71,f 72,f 73,f 74,f 75,f 76,f 77,f 78,f 79,f 80,f 81,f 82,f 83,f 84,f 85,f 86,f 87,f 88,f 89,f 90,f 91,f 92,f 93,f 94,f 95,f 96,f 97,f 98,f 99,f 100,f 101,f 102,f 103,f 104,f 105,f 106,f 107,f 108,f 109,f 110,f 111,f 112,f 113,f 114,f 115,f 116,f 117,f 118,f 119,f 120,f 121,f 122,f 123,f 124,f 125,f 126]:=by
 obtain⟨l⟩:=t
 have hl:l.length=127:=h
 have e:l=(List.range 127).map (fun i=>l.getD i undef):=by
  apply List.ext_getElem
  ·simp[hl]
  ·intro i h1 h2
   simp[List.getD,h1]
 exact⟨fun i=>l.getD i undef,congrArg List.toArray e⟩
def lrF (k0 no oc oc2 nw wc nl g off cb:Nat) (oo wo:Option Addr) (cs:List Value) (u:Use) (kk:Bool) (i:Nat) (W:World) (v:Value):Prop:=match i with
 | 0=>v = .agg cs.toArray
 | 1=>v = .slice oo nw oc2
 | 2=>v = .slice (some ⟨g,off,none⟩) no oc
 | 3=>v = .int .i64 (k0:Nat)
 | 4=>v = .pointer (some ⟨g,off+k0*5,none⟩)
 | 5=>v = .pointer (some ⟨g,off+k0*5,none⟩)
 | 6=>v = .agg (Zbu u).toArray
 | 7=>v = .slice wo nl wc
 | 8=>v = .bool kk
 | 9=>v = .bool kk
 | _=>True
theorem Zoi (k0 no oc oc2 nw wc nl g off cb:Nat) (oo wo:Option Addr) (cs:List Value) (u:Use) (kk:Bool):∀ i w w' v,lrF k0 no oc oc2 nw wc nl g off cb oo wo cs u kk i w v→Below w.heap.size w w'→lrF k0 no oc oc2 nw wc nl g off cb oo wo cs u kk i w' v:=by
 intro i w w' v h hb
 match i with
 | 0=>exact h
 | 1=>exact h
 | 2=>exact h
 | 3=>exact h
 | 4=>exact h
 | 5=>exact h
 | 6=>exact h
 | 7=>exact h
 | 8=>exact h
 | 9=>exact h
 | k+10=>trivial
theorem Zpu (w:World) (c:Crw) (cs:List Value) (B:Nat) (own:List Int) (oo:Option Addr) (oc2:Nat) (os:List Opt) (po:Option Addr) (oc:Nat) (l:List Wsh) (wo:Option Addr) (wc:Nat) (hcw:Zgq w c cs) (hG:Tab w B) (hL:LenC c) (hby:∀ p∈c.qs,ByL p) (hnm:∀ m∈c.ms,∀ b∈m.b,NmL b.n) (hown:Zak Zbb w oo own) (hol:own.length≤9223372036854775807) (hl:Zak Zm0 w wo l) (hll:l.length≤9223372036854775807) (hos:Zak Zv2 w po os) (hnos:os.length≤9223372036854775807) :
  Calls Tryz.prog 9 #[.agg cs.toArray,.slice oo own.length oc2,.slice po os.length oc,.slice wo l.length wc] w fun e w'=>e = .returned (.bool true)∧Below w.heap.size w w':=by
 have HTB:=ħ (fun W (hW:Below w.heap.size w W)=>Zbe.step (w:=w) hG hW)
 have HCW:=ħ (fun W (hW:Below w.heap.size w W)=>hcw.below hW)
 have HOW:=ħ (fun W (hW:Below w.heap.size w W)=>hown.below hW)
 have HLW:=ħ (fun W (hW:Below w.heap.size w W)=>hl.below hW)
 have HPW:=ħ (fun W (hW:Below w.heap.size w W)=>hos.below hW)
 have HFK:=ħ (fun hf=>Zxb (c:=c) hf hL hby hnm)
 have HFW:=ħ (fun W (hW:Below w.heap.size w W)=>Zvm W c cs (hcw.below hW) hL)
 have hun:=hL.nu
 obtain⟨qo,qc,mo,mc,uo,uc,rfl,-⟩:=hcw
 generalize hqe:c.qs.length=qn at *
 generalize hme:c.ms.length=mn at *
 generalize hue:c.us.length=un at *
 clear hqe hme hown hl hos hL hby hnm hG
 have X1:Hid (Zaf (w.alloc (.cells #[.slice qo qn qc,.slice mo mn mc,.slice uo un uc] 26)) w.heap.size 26 [.slice qo qn qc,.slice mo mn mc,.slice uo un uc]):=ħ (heap_alloc_new w _)
 have B1:=ħ ((Below.refl w.heap.size w).alloc (Nat.le_refl _) (.cells #[.slice qo qn qc,.slice mo mn mc,.slice uo un uc] 26))
 have HUE:=ħ hue
 clear hue
 go_enter Tryz.func9,Tryz.ntmps9
 go_upto_region 1 with (fail)
 generalize w.alloc (.cells #[.slice qo qn qc,.slice mo mn mc,.slice uo un uc] 26)=w1 at *
 go_wp2_with fail
 refine (Zs0 w1 B (HTB.o w1 B1.o)).mono ?_
 rintro e w2 ⟨rfl,b2⟩
 have X2:=ħ (X1.o.step b2)
 have B2:=ħ (B1.o.trans (b2.mono B1.o.size))
 clear b2 X1 B1
 go_upto_region 2 with (fail)
 go_wp2_with (refine wpList_load_row rfl 26 (.tmp 4) rfl (w.heap.size) ?x1 26 #[.slice qo qn qc,.slice mo mn mc,.slice uo un uc] (0,0) _ X2.o Tryz.underlying26 rfl (Zee _ _ _) ?_;(case x1=>rfl))
 refine (HFW.o w2 B2.o).mono ?_
 rintro e w3 ⟨rfl,b3⟩
 have X3:=ħ (X2.o.step b3)
 have B3:=ħ (B2.o.trans (b3.mono B2.o.size))
 clear b3 X2 B2 HFW
 obtain⟨V,hV⟩:∃ V,Zx6 c=V:=⟨_,rfl⟩
 rw[hV]
 have HV:=ħ hV
 clear hV
 cases V with
 | false =>
  go_wp2_with fail
  go_ret
  exact⟨rfl,B3.o⟩
 | true =>
  obtain⟨hok,h999,-,-⟩:=HFK.o HV.o
  have HOK:=ħ hok
  clear hok HFK HV
  have c2:=X3.o.cell 2 _ rfl
  by_cases h5:5<un
  ·have h5i:(5:Int)<un:=by omega
   go_wp2_with fail
   go_ret
   exact⟨rfl,B3.o⟩
  ·have h5i:¬ (5:Int)<un:=by omega
   go_wp2_with fail
   refine (Zvo w3 oo wo po own.length oc2 l.length wc os.length oc hol hll hnos).mono ?_
   rintro e w4 ⟨rfl,rfl⟩
   clear c2
   by_cases hfw:own.length≤8∧l.length≤5∧os.length≤34
   ·rw[decide_eq_true hfw.1,decide_eq_true hfw.2.1,decide_eq_true hfw.2.2,Bool.and_true,Bool.and_true]
    by_cases h8:8<os.length
    ·have h8i:(8:Int)<(os.length:Int):=by omega
     go_wp2_with fail
     go_ret
     exact⟨rfl,B3.o⟩
    ·have h8i:¬ (8:Int)<(os.length:Int):=by omega
     have HAG:=ħ (fun W (hW:Below w.heap.size w W)=>(⟨HCW.o W hW,HTB.o W hW,HOK.o,by rw[HUE.o];exact h999⟩:ArgC W c [.slice qo qn qc,.slice mo mn mc,.slice uo un uc] B))
     have HRX:=ħ (fun W (hW:Below w.heap.size w W)=>Zs9 W c _ B own oo oc2 os po oc l wo wc (HAG.o W hW) (HOW.o W hW) (by omega) (HLW.o W hW) (by omega) (HPW.o W hW) (by omega))
     have HKP0:=ħ (fun W (hW:Below w.heap.size w W) u=>Zhl W c _ B own oo oc2 u l wo wc (HAG.o W hW) (HOW.o W hW) (by omega) (HLW.o W hW) (by omega))
     have hbest:=Zta c own l os (by omega)
     have HGE:=ħ (fun k0 (hi:k0<os.length)=>(⟨_,List.getElem?_eq_getElem hi⟩:∃ y,os[k0]?=some y))
     obtain⟨R,hR⟩:∃ R,Zxc c own l os=R:=⟨_,rfl⟩
     rw[hR] at hbest HRX
     have HBE:=ħ hbest
     clear hbest hR hol hll hnos HTB HOK h999 HCW
     go_upto_region 4 with (fail)
     go_wp2_with (refine wpList_load_row rfl 26 (.tmp 4) rfl (w.heap.size) ?x1 26 #[.slice qo qn qc,.slice mo mn mc,.slice uo un uc] (0,0) _ X3.o Tryz.underlying26 rfl (Zee _ _ _) ?_;(case x1=>rfl))
     refine (HRX.o w3 B3.o).mono ?_
     rintro e w5 ⟨rfl,b5⟩
     have X5:=ħ (X3.o.step b5)
     have B5:=ħ (B3.o.trans (b5.mono B3.o.size))
     clear b5 X3 B3 HRX
     generalize os.length=no at *
     cases R with
     | none =>
      rw[show Zs8 none = -1 from rfl,show (none:Option (Nat×Int)).isSome=false from rfl]
      generalize ([.slice qo qn qc,.slice mo mn mc,.slice uo un uc]:List Value)=cs at *
      have XB5:Hid (Zpo w5 w.heap.size c cs):=ħ (And.intro X5.o (HAG.o w5 B5.o).crw)
      go_upto_region 7 with (fail)
      go_wp2_with fail
      go_loopw [12] (fun iv wr=>∃ (k0:Nat),iv = .int .i64 k0∧k0≤no∧Hid (Zpo wr w.heap.size c cs)∧Hid (Below w.heap.size w wr)) (fun k0 _=>(no-intOf k0).toNat)
      case atStart=>exact⟨0,rfl,by omega,XB5,B5⟩
      case round =>
       clear XB5 B5 X5
       obtain⟨k0,rfl,hi,X6,B6⟩:=hrel
       have e2:IntKind.i64.wrap ((k0:Int)+1)=((k0+1:Nat):Int):=IntWalk.i64_in _ (by omega)
       by_cases hin:k0<no
       ·have ii:(k0:Int)<no:=by omega
        obtain⟨y,hy⟩:=HGE.o k0 hin
        have HY:=ħ hy
        obtain⟨g,off,hpo,hg,-⟩:=(HPW.o wr B6.o).at Zdf k0 y hy
        obtain⟨u,kc⟩:=y
        subst hpo
        clear hg hy
        have HCL:=ħ (fun W (hW:Below wr.heap.size wr W) n x (hx:os[n]?=some x)=>by
         obtain⟨g5,o5,hp5,-,hr5⟩:=(HPW.o W (B6.o.trans (hW.mono B6.o.size))).at Zdf n x hx
         obtain⟨rfl,rfl⟩:g=g5∧off=o5:=by simpa using hp5
         exact hr5)
        have HUC:=ħ (fun W (hW:Below wr.heap.size wr W)=>(⟨HCL.o W hW k0 _ HY.o 0 _ rfl,HCL.o W hW k0 _ HY.o 1 _ rfl,HCL.o W hW k0 _ HY.o 2 _ rfl,HCL.o W hW k0 _ HY.o 3 _ rfl⟩:W.cell? ⟨g,off+k0*5,none⟩=some (.int .i64 u.q)∧W.cell? ⟨g,off+k0*5+1,none⟩=some (.int .i64 u.w)∧W.cell? ⟨g,off+k0*5+2,none⟩=some (.int .i64 u.f)∧W.cell? ⟨g,off+k0*5+3,none⟩=some (.int .i64 u.h)))
        obtain⟨kk,hkk⟩:∃ kk,Zc8 c own u l=kk:=⟨_,rfl⟩
        have HKK:=ħ hkk
        have HKP:=ħ (fun W (hW:Below wr.heap.size wr W)=>HKP0.o W (B6.o.trans (hW.mono B6.o.size)) u)
        rw[hkk] at HKP
        clear hkk
        have HCB:=ħ (fun W (hW:Below wr.heap.size wr W)=>X6.o.below hW)
        have HJN:=ħ (show ((k0:Nat):Int)<no∧0≤((k0:Nat):Int) by omega)
        generalize own.length=nw at *
        generalize l.length=nl at *
        go_upto_region 10 with (fail)
        refine Zap (lrF k0 no oc oc2 nw wc nl g off (w.heap.size) oo wo cs u kk) (by kernel_rfl) (Zoi k0 no oc oc2 nw wc nl g off (w.heap.size) oo wo cs u kk) (Zbv (by kernel_rfl)) (Zd9 (by kernel_rfl)) (Zax (by kernel_rfl)) ?hs ?he
        case hs =>
         intro i o hi listed a' w' H hl2
         have hl3:=Zao hl2
         have hin:i<10:=(Array.getElem?_eq_some_iff.1 hi).1
         have hb:=ħ H.below
         have s1:=H.same 1 (Zai (by kernel_rfl))
         have s2:=H.same 2 (Zai (by kernel_rfl))
         have s3:=H.same 3 (Zai (by kernel_rfl))
         have s4:=H.same 4 (Zai (by kernel_rfl))
         have s12:=H.same 12 (Zai (by kernel_rfl))
         have hdn:=H.done
         have hdf:=H.defers
         have hts:=H.tsize
         clear hl2 H
         obtain⟨t',df⟩:=a'
         obtain⟨f',rfl⟩:=Zv3 t' hts
         have hdf':df=[]:=hdf
         subst hdf'
         have gs1:f' 1 = .slice oo nw oc2:=s1
         have gs2:f' 2 = .slice (some ⟨g,off,none⟩) no oc:=s2
         have gs3:f' 3 = .slice wo nl wc:=s3
         have gs4:f' 4 = .pointer (some ⟨(w.heap.size),0,none⟩):=s4
         have gs12:f' 12 = .int .i64 (k0:Nat):=s12
         clear s1 s2 s3 s4 s12
         clear hdf hts
         have hcases:=Zfw i hin
         clear hin
         rcases hcases with rfl | rfl | rfl | rfl | rfl | rfl | rfl | rfl | rfl | rfl
         ·obtain rfl:=Option.some.inj hi
          clear hdn hl3
          rw[gs4]
          clear gs1 gs2 gs3 gs4 gs12
          have X2:=HCB.o w' hb.o
          refine Zab rfl ?_
          go_wp2_with (refine wpList_load_row rfl 26 (.tmp 4) rfl (w.heap.size) ?x1 26 cs.toArray (0,0) _ X2.1 Tryz.underlying26 rfl X2.2.inf ?_;(case x1=>rfl))
          exact Zaa ⟨_,rfl,Below.refl _ _,rfl⟩
         ·obtain rfl:=Option.some.inj hi
          clear hdn hl3
          rw[gs1]
          clear gs1 gs2 gs3 gs4 gs12
          refine Zab rfl ?_
          go_wp2_with fail
          exact Zaa ⟨_,rfl,Below.refl _ _,rfl⟩
         ·obtain rfl:=Option.some.inj hi
          clear hdn hl3
          rw[gs2]
          clear gs1 gs2 gs3 gs4 gs12
          refine Zab rfl ?_
          go_wp2_with fail
          exact Zaa ⟨_,rfl,Below.refl _ _,rfl⟩
         ·obtain rfl:=Option.some.inj hi
          clear hdn hl3
          rw[gs12]
          clear gs1 gs2 gs3 gs4 gs12
          refine Zab rfl ?_
          go_wp2_with fail
          exact Zaa ⟨_,rfl,Below.refl _ _,rfl⟩
         ·obtain rfl:=Option.some.inj hi
          have dv2:f' 73 = .slice (some ⟨g,off,none⟩) no oc:=hdn 2 _ 73 rfl (hl3 2 (by rfl)) rfl
          have dv3:f' 74 = .int .i64 (k0:Nat):=hdn 3 _ 74 rfl (hl3 3 (by rfl)) rfl
          clear hdn hl3
          rw[dv2,dv3]
          clear dv2 dv3 gs1 gs2 gs3 gs4 gs12
          have jn:=HJN.o
          refine Zab rfl ?_
          go_wp2_with fail
          exact Zaa ⟨_,rfl,Below.refl _ _,rfl⟩
         ·obtain rfl:=Option.some.inj hi
          have dv4:f' 75 = .pointer (some ⟨g,off+k0*5,none⟩):=hdn 4 _ 75 rfl (hl3 4 (by rfl)) rfl
          clear hdn hl3
          rw[dv4]
          clear dv4 gs1 gs2 gs3 gs4 gs12
          refine Zab rfl ?_
          go_wp2_with fail
          exact Zaa ⟨_,rfl,Below.refl _ _,rfl⟩
         ·obtain rfl:=Option.some.inj hi
          have dv5:f' 76 = .pointer (some ⟨g,off+k0*5,none⟩):=hdn 5 _ 76 rfl (hl3 5 (by rfl)) rfl
          clear hdn hl3
          rw[dv5]
          clear dv5 gs1 gs2 gs3 gs4 gs12
          have y0:=(HUC.o w' hb.o).1
          have y1:=(HUC.o w' hb.o).2.1
          have y2:=(HUC.o w' hb.o).2.2.1
          have y3:=(HUC.o w' hb.o).2.2.2
          refine Zab rfl ?_
          go_wp2_with fail
          exact Zaa ⟨_,rfl,Below.refl _ _,rfl⟩
         ·obtain rfl:=Option.some.inj hi
          clear hdn hl3
          rw[gs3]
          clear gs1 gs2 gs3 gs4 gs12
          refine Zab rfl ?_
          go_wp2_with fail
          exact Zaa ⟨_,rfl,Below.refl _ _,rfl⟩
         ·obtain rfl:=Option.some.inj hi
          have dv0:f' 71 = .agg cs.toArray:=hdn 0 _ 71 rfl (hl3 0 (by rfl)) rfl
          have dv1:f' 72 = .slice oo nw oc2:=hdn 1 _ 72 rfl (hl3 1 (by rfl)) rfl
          have dv6:f' 77 = .agg (Zbu u).toArray:=hdn 6 _ 77 rfl (hl3 6 (by rfl)) rfl
          have dv7:f' 78 = .slice wo nl wc:=hdn 7 _ 78 rfl (hl3 7 (by rfl)) rfl
          clear hdn hl3
          rw[dv0,dv1,dv6,dv7]
          clear dv0 dv1 dv6 dv7 gs1 gs2 gs3 gs4 gs12
          refine Zab rfl ?_
          go_wp2_with fail
          refine (HKP.o w' hb.o).mono ?_
          rintro e w4 ⟨rfl,b4⟩
          have HB4:=ħ b4
          clear b4
          go_wp2_with fail
          exact Zaa ⟨_,rfl,HB4.o,rfl⟩
         ·obtain rfl:=Option.some.inj hi
          have dv8:f' 79 = .bool kk:=hdn 8 _ 79 rfl (hl3 8 (by rfl)) rfl
          clear hdn hl3
          rw[dv8]
          clear dv8 gs1 gs2 gs3 gs4 gs12
          refine Zab rfl ?_
          go_wp2_with fail
          exact Zaa ⟨_,rfl,Below.refl _ _,rfl⟩
        case he =>
         intro listed a' w4 H hall
         have hd9:lrF k0 no oc oc2 nw wc nl g off (w.heap.size) oo wo cs u kk 9 w4 (a'.tmps.getD 13 undef):=H.done 9 _ 13 rfl (hall 9 (by decide)) rfl
         have hb4:=ħ H.below
         have hact:=H.act [71,72,73,74,75,76,77,78,79,13] (Zb8 (by kernel_rfl))
         clear H hall
         simp only[List.foldl_cons,List.foldl_nil] at hact
         generalize a'.tmps.getD 71 undef=z71 at *
         generalize a'.tmps.getD 72 undef=z72 at *
         generalize a'.tmps.getD 73 undef=z73 at *
         generalize a'.tmps.getD 74 undef=z74 at *
         generalize a'.tmps.getD 75 undef=z75 at *
         generalize a'.tmps.getD 76 undef=z76 at *
         generalize a'.tmps.getD 77 undef=z77 at *
         generalize a'.tmps.getD 78 undef=z78 at *
         generalize a'.tmps.getD 79 undef=z79 at *
         generalize a'.tmps.getD 13 undef=z13 at *
         subst hact
         have e9:z13 = .bool kk:=hd9
         subst e9
         clear hd9
         simp only[Act.put,List.setIfInBounds_toArray,List.set_cons_succ,List.set_cons_zero]
         have X7:=ħ (X6.o.below hb4.o)
         have B7:=ħ (B6.o.trans (hb4.o.mono B6.o.size))
         have HCL4:=ħ (HCL.o w4 hb4.o)
         clear hb4 X6 B6 HUC HKP HCB HCL
         have hkf:kk=false:=by rw[← HKK.o];exact HBE.o k0 _ hin HY.o
         subst hkf
         go_wp2_with fail
         go_roundw
         case rel=>exact⟨k0+1,by go_num,by omega,X7,B7⟩
         case measure=>simp only[intOf];omega
       ·have ii:¬ (k0:Int)<no:=by omega
        go_wp2_with fail
        go_ret
        exact⟨rfl,B6.o⟩
     | some p =>
      obtain⟨j,kb⟩:=p
      obtain⟨⟨hj,hoj⟩,hbst⟩:=HBE.o
      have hj:j<no:=hj
      have HOJ:=ħ hoj
      have HBT:=ħ hbst
      clear hoj hbst HBE
      have j0:¬ ((j:Nat):Int)<0:=by omega
      have jn:¬ ((j:Nat):Int)≥no:=by omega
      rw[show Zs8 (some (j,kb))=(j:Int) from rfl,show (some (j,kb):Option (Nat×Int)).isSome=true from rfl]
      generalize ([.slice qo qn qc,.slice mo mn mc,.slice uo un uc]:List Value)=cs at *
      have XB5:Hid (Zpo w5 w.heap.size c cs):=ħ (And.intro X5.o (HAG.o w5 B5.o).crw)
      go_upto_region 7 with (fail)
      go_wp2_with fail
      go_loopw [12] (fun iv wr=>∃ (k0:Nat),iv = .int .i64 k0∧k0≤no∧Hid (Zpo wr w.heap.size c cs)∧Hid (Below w.heap.size w wr)) (fun k0 _=>(no-intOf k0).toNat)
      case atStart=>exact⟨0,rfl,by omega,XB5,B5⟩
      case round =>
       clear XB5 B5 X5
       obtain⟨k0,rfl,hi,X6,B6⟩:=hrel
       have e2:IntKind.i64.wrap ((k0:Int)+1)=((k0+1:Nat):Int):=IntWalk.i64_in _ (by omega)
       by_cases hin:k0<no
       ·have ii:(k0:Int)<no:=by omega
        obtain⟨y,hy⟩:=HGE.o k0 hin
        have HY:=ħ hy
        obtain⟨g,off,hpo,hg,-⟩:=(HPW.o wr B6.o).at Zdf k0 y hy
        obtain⟨u,kc⟩:=y
        subst hpo
        clear hg hy
        have HCL:=ħ (fun W (hW:Below wr.heap.size wr W) n x (hx:os[n]?=some x)=>by
         obtain⟨g5,o5,hp5,-,hr5⟩:=(HPW.o W (B6.o.trans (hW.mono B6.o.size))).at Zdf n x hx
         obtain⟨rfl,rfl⟩:g=g5∧off=o5:=by simpa using hp5
         exact hr5)
        have HUC:=ħ (fun W (hW:Below wr.heap.size wr W)=>(⟨HCL.o W hW k0 _ HY.o 0 _ rfl,HCL.o W hW k0 _ HY.o 1 _ rfl,HCL.o W hW k0 _ HY.o 2 _ rfl,HCL.o W hW k0 _ HY.o 3 _ rfl⟩:W.cell? ⟨g,off+k0*5,none⟩=some (.int .i64 u.q)∧W.cell? ⟨g,off+k0*5+1,none⟩=some (.int .i64 u.w)∧W.cell? ⟨g,off+k0*5+2,none⟩=some (.int .i64 u.f)∧W.cell? ⟨g,off+k0*5+3,none⟩=some (.int .i64 u.h)))
        obtain⟨kk,hkk⟩:∃ kk,Zc8 c own u l=kk:=⟨_,rfl⟩
        have HKK:=ħ hkk
        have HKP:=ħ (fun W (hW:Below wr.heap.size wr W)=>HKP0.o W (B6.o.trans (hW.mono B6.o.size)) u)
        rw[hkk] at HKP
        clear hkk
        have HCB:=ħ (fun W (hW:Below wr.heap.size wr W)=>X6.o.below hW)
        have HJN:=ħ (show ((k0:Nat):Int)<no∧0≤((k0:Nat):Int) by omega)
        generalize own.length=nw at *
        generalize l.length=nl at *
        go_upto_region 10 with (fail)
        refine Zap (lrF k0 no oc oc2 nw wc nl g off (w.heap.size) oo wo cs u kk) (by kernel_rfl) (Zoi k0 no oc oc2 nw wc nl g off (w.heap.size) oo wo cs u kk) (Zbv (by kernel_rfl)) (Zd9 (by kernel_rfl)) (Zax (by kernel_rfl)) ?hs ?he
        case hs =>
         intro i o hi listed a' w' H hl2
         have hl3:=Zao hl2
         have hin:i<10:=(Array.getElem?_eq_some_iff.1 hi).1
         have hb:=ħ H.below
         have s1:=H.same 1 (Zai (by kernel_rfl))
         have s2:=H.same 2 (Zai (by kernel_rfl))
         have s3:=H.same 3 (Zai (by kernel_rfl))
         have s4:=H.same 4 (Zai (by kernel_rfl))
         have s12:=H.same 12 (Zai (by kernel_rfl))
         have hdn:=H.done
         have hdf:=H.defers
         have hts:=H.tsize
         clear hl2 H
         obtain⟨t',df⟩:=a'
         obtain⟨f',rfl⟩:=Zv3 t' hts
         have hdf':df=[]:=hdf
         subst hdf'
         have gs1:f' 1 = .slice oo nw oc2:=s1
         have gs2:f' 2 = .slice (some ⟨g,off,none⟩) no oc:=s2
         have gs3:f' 3 = .slice wo nl wc:=s3
         have gs4:f' 4 = .pointer (some ⟨(w.heap.size),0,none⟩):=s4
         have gs12:f' 12 = .int .i64 (k0:Nat):=s12
         clear s1 s2 s3 s4 s12
         clear hdf hts
         have hcases:=Zfw i hin
         clear hin
         rcases hcases with rfl | rfl | rfl | rfl | rfl | rfl | rfl | rfl | rfl | rfl
         ·obtain rfl:=Option.some.inj hi
          clear hdn hl3
          rw[gs4]
          clear gs1 gs2 gs3 gs4 gs12
          have X2:=HCB.o w' hb.o
          refine Zab rfl ?_
          go_wp2_with (refine wpList_load_row rfl 26 (.tmp 4) rfl (w.heap.size) ?x1 26 cs.toArray (0,0) _ X2.1 Tryz.underlying26 rfl X2.2.inf ?_;(case x1=>rfl))
          exact Zaa ⟨_,rfl,Below.refl _ _,rfl⟩
         ·obtain rfl:=Option.some.inj hi
          clear hdn hl3
          rw[gs1]
          clear gs1 gs2 gs3 gs4 gs12
          refine Zab rfl ?_
          go_wp2_with fail
          exact Zaa ⟨_,rfl,Below.refl _ _,rfl⟩
         ·obtain rfl:=Option.some.inj hi
          clear hdn hl3
          rw[gs2]
          clear gs1 gs2 gs3 gs4 gs12
          refine Zab rfl ?_
          go_wp2_with fail
          exact Zaa ⟨_,rfl,Below.refl _ _,rfl⟩
         ·obtain rfl:=Option.some.inj hi
          clear hdn hl3
          rw[gs12]
          clear gs1 gs2 gs3 gs4 gs12
          refine Zab rfl ?_
          go_wp2_with fail
          exact Zaa ⟨_,rfl,Below.refl _ _,rfl⟩
         ·obtain rfl:=Option.some.inj hi
          have dv2:f' 73 = .slice (some ⟨g,off,none⟩) no oc:=hdn 2 _ 73 rfl (hl3 2 (by rfl)) rfl
          have dv3:f' 74 = .int .i64 (k0:Nat):=hdn 3 _ 74 rfl (hl3 3 (by rfl)) rfl
          clear hdn hl3
          rw[dv2,dv3]
          clear dv2 dv3 gs1 gs2 gs3 gs4 gs12
          have jn:=HJN.o
          refine Zab rfl ?_
          go_wp2_with fail
          exact Zaa ⟨_,rfl,Below.refl _ _,rfl⟩
         ·obtain rfl:=Option.some.inj hi
          have dv4:f' 75 = .pointer (some ⟨g,off+k0*5,none⟩):=hdn 4 _ 75 rfl (hl3 4 (by rfl)) rfl
          clear hdn hl3
          rw[dv4]
          clear dv4 gs1 gs2 gs3 gs4 gs12
          refine Zab rfl ?_
          go_wp2_with fail
          exact Zaa ⟨_,rfl,Below.refl _ _,rfl⟩
         ·obtain rfl:=Option.some.inj hi
          have dv5:f' 76 = .pointer (some ⟨g,off+k0*5,none⟩):=hdn 5 _ 76 rfl (hl3 5 (by rfl)) rfl
          clear hdn hl3
          rw[dv5]
          clear dv5 gs1 gs2 gs3 gs4 gs12
          have y0:=(HUC.o w' hb.o).1
          have y1:=(HUC.o w' hb.o).2.1
          have y2:=(HUC.o w' hb.o).2.2.1
          have y3:=(HUC.o w' hb.o).2.2.2
          refine Zab rfl ?_
          go_wp2_with fail
          exact Zaa ⟨_,rfl,Below.refl _ _,rfl⟩
         ·obtain rfl:=Option.some.inj hi
          clear hdn hl3
          rw[gs3]
          clear gs1 gs2 gs3 gs4 gs12
          refine Zab rfl ?_
          go_wp2_with fail
          exact Zaa ⟨_,rfl,Below.refl _ _,rfl⟩
         ·obtain rfl:=Option.some.inj hi
          have dv0:f' 71 = .agg cs.toArray:=hdn 0 _ 71 rfl (hl3 0 (by rfl)) rfl
          have dv1:f' 72 = .slice oo nw oc2:=hdn 1 _ 72 rfl (hl3 1 (by rfl)) rfl
          have dv6:f' 77 = .agg (Zbu u).toArray:=hdn 6 _ 77 rfl (hl3 6 (by rfl)) rfl
          have dv7:f' 78 = .slice wo nl wc:=hdn 7 _ 78 rfl (hl3 7 (by rfl)) rfl
          clear hdn hl3
          rw[dv0,dv1,dv6,dv7]
          clear dv0 dv1 dv6 dv7 gs1 gs2 gs3 gs4 gs12
          refine Zab rfl ?_
          go_wp2_with fail
          refine (HKP.o w' hb.o).mono ?_
          rintro e w4 ⟨rfl,b4⟩
          have HB4:=ħ b4
          clear b4
          go_wp2_with fail
          exact Zaa ⟨_,rfl,HB4.o,rfl⟩
         ·obtain rfl:=Option.some.inj hi
          have dv8:f' 79 = .bool kk:=hdn 8 _ 79 rfl (hl3 8 (by rfl)) rfl
          clear hdn hl3
          rw[dv8]
          clear dv8 gs1 gs2 gs3 gs4 gs12
          refine Zab rfl ?_
          go_wp2_with fail
          exact Zaa ⟨_,rfl,Below.refl _ _,rfl⟩
        case he =>
         intro listed a' w4 H hall
         have hd9:lrF k0 no oc oc2 nw wc nl g off (w.heap.size) oo wo cs u kk 9 w4 (a'.tmps.getD 13 undef):=H.done 9 _ 13 rfl (hall 9 (by decide)) rfl
         have hb4:=ħ H.below
         have hact:=H.act [71,72,73,74,75,76,77,78,79,13] (Zb8 (by kernel_rfl))
         clear H hall
         simp only[List.foldl_cons,List.foldl_nil] at hact
         generalize a'.tmps.getD 71 undef=z71 at *
         generalize a'.tmps.getD 72 undef=z72 at *
         generalize a'.tmps.getD 73 undef=z73 at *
         generalize a'.tmps.getD 74 undef=z74 at *
         generalize a'.tmps.getD 75 undef=z75 at *
         generalize a'.tmps.getD 76 undef=z76 at *
         generalize a'.tmps.getD 77 undef=z77 at *
         generalize a'.tmps.getD 78 undef=z78 at *
         generalize a'.tmps.getD 79 undef=z79 at *
         generalize a'.tmps.getD 13 undef=z13 at *
         subst hact
         have e9:z13 = .bool kk:=hd9
         subst e9
         clear hd9
         simp only[Act.put,List.setIfInBounds_toArray,List.set_cons_succ,List.set_cons_zero]
         have X7:=ħ (X6.o.below hb4.o)
         have B7:=ħ (B6.o.trans (hb4.o.mono B6.o.size))
         have HCL4:=ħ (HCL.o w4 hb4.o)
         clear hb4 X6 B6 HUC HKP HCB HCL
         obtain⟨⟨u5,k5⟩,hy5,h5,hk5⟩:=HOJ.o
         have h5:k5=kb:=h5
         subst h5
         have z0:w4.cell? ⟨g,off+j*5+4,none⟩=some (.int .i64 k5):=HCL4.o j _ hy5 4 _ rfl
         have z1:w4.cell? ⟨g,off+k0*5+4,none⟩=some (.int .i64 kc):=HCL4.o k0 _ HY.o 4 _ rfl
         have hmx:max ((j:Nat):Int) 0=j:=by omega
         have jl:((j:Nat):Int)<no:=by omega
         have HEQ:Hid (k0=j→kk=true):=ħ (fun e=>by
          subst e
          obtain⟨rfl,-⟩:u=u5∧kc=k5:=by simpa using HY.o.symm.trans hy5
          rw[← HKK.o];exact hk5)
         have HLE:Hid (kk=true→k5≤kc∧(kc=k5→j≤k0)):=ħ (fun e=>HBT.o k0 _ hin HY.o (by rw[← e];exact HKK.o))
         clear hy5 hk5 HCL4
         cases kk with
         | true =>
          obtain⟨q1,q2⟩:=HLE.o rfl
          have n1:¬ kc<k5:=by omega
          by_cases he:kc=k5
          ·have n2:¬ ((k0:Nat):Int)<j:=by have:=q2 he;omega
           subst he
           by_cases hij:((k0:Nat):Int)=j
           ·have hkj:k0=j:=by omega
            go_wp2_with fail
            go_roundw
            case rel=>exact⟨k0+1,by go_num,by omega,X7,B7⟩
            case measure=>simp only[intOf];omega
           ·have hkj:¬ k0=j:=by omega
            have hijb:(((k0:Nat):Int)==((j:Nat):Int))=false:=by rw[beq_eq_false_iff_ne];exact hij
            go_wp2_with fail
            go_roundw
            case rel=>exact⟨k0+1,by go_num,by omega,X7,B7⟩
            case measure=>simp only[intOf];omega
          ·by_cases hij:((k0:Nat):Int)=j
           ·have hkj:k0=j:=by omega
            go_wp2_with fail
            go_roundw
            case rel=>exact⟨k0+1,by go_num,by omega,X7,B7⟩
            case measure=>simp only[intOf];omega
           ·have hkj:¬ k0=j:=by omega
            have heb:(kc==k5)=false:=by rw[beq_eq_false_iff_ne];exact he
            have hijb:(((k0:Nat):Int)==((j:Nat):Int))=false:=by rw[beq_eq_false_iff_ne];exact hij
            go_wp2_with fail
            go_roundw
            case rel=>exact⟨k0+1,by go_num,by omega,X7,B7⟩
            case measure=>simp only[intOf];omega
         | false =>
          have hij:¬ ((k0:Nat):Int)=j:=fun e=>by have:=HEQ.o (by omega);cases this
          have hijb:(((k0:Nat):Int)==((j:Nat):Int))=false:=by rw[beq_eq_false_iff_ne];exact hij
          go_wp2_with fail
          go_roundw
          case rel=>exact⟨k0+1,by go_num,by omega,X7,B7⟩
          case measure=>simp only[intOf];omega
       ·have ii:¬ (k0:Int)<no:=by omega
        go_wp2_with fail
        go_ret
        exact⟨rfl,B6.o⟩
   ·have hd:(decide (own.length≤8)&&(decide (l.length≤5)&&decide (os.length≤34)))=false:=by
     by_cases a:own.length≤8
     ·by_cases b:l.length≤5
      ·rw[decide_eq_false (show ¬ os.length≤34 by omega),Bool.and_false,Bool.and_false]
      ·rw[decide_eq_false b,Bool.false_and,Bool.and_false]
     ·rw[decide_eq_false a,Bool.false_and]
    rw[hd]
    go_wp2_with fail
    go_ret
    exact⟨rfl,B3.o⟩
end
section
open Go Go.ChangeShapes Go.WideShapes Go.ChangeAt Go.WideMaps Go.WideElems Go.RowKit
theorem Zzc:Tryz.prog.cellsOf 69=5:=by kernel_rfl
section
variable {H:Type} {enc:TypeId×Value→H} {W:World}
theorem Zvp {fuel:Nat} {cs:List Value} {y:DataW H×List MemPlace} (hl:cs.length=4) (h:DataW.trod enc Tryz.prog W 0 (fun _=>true) true fuel 39 cs=some y):∃ x:Use,cs=Zbu x:=by
 obtain⟨xs,n2,hn,-,hl2,hxl,hf⟩:=DataW.trod_struct Tryz.underlying39 h
 match cs,hl with
 | [c0,c1,c2,c3],_ =>
  match xs,hxl with
  | [y0,y1,y2,y3],_ =>
   have f0:DataW.trod enc Tryz.prog W 0 (fun _=>true) true n2 3 (([c0,c1,c2,c3]:List Value).drop 0 |>.take (Tryz.prog.cellsOf 3))=some y0:=hf 0 _ rfl
   have f1:DataW.trod enc Tryz.prog W 0 (fun _=>true) true n2 3 (([c0,c1,c2,c3]:List Value).drop 1 |>.take (Tryz.prog.cellsOf 3))=some y1:=hf 1 _ rfl
   have f2:DataW.trod enc Tryz.prog W 0 (fun _=>true) true n2 3 (([c0,c1,c2,c3]:List Value).drop 2 |>.take (Tryz.prog.cellsOf 3))=some y2:=hf 2 _ rfl
   have f3:DataW.trod enc Tryz.prog W 0 (fun _=>true) true n2 3 (([c0,c1,c2,c3]:List Value).drop 3 |>.take (Tryz.prog.cellsOf 3))=some y3:=hf 3 _ rfl
   rw[cI] at f0 f1 f2 f3
   obtain⟨k0,e0,-,-⟩:=DataW.trod_int Tryz.underlying3 (show DataW.trod enc Tryz.prog W 0 (fun _=>true) true n2 3 [c0]=some y0 from f0)
   obtain⟨k1,e1,-,-⟩:=DataW.trod_int Tryz.underlying3 (show DataW.trod enc Tryz.prog W 0 (fun _=>true) true n2 3 [c1]=some y1 from f1)
   obtain⟨k2,e2,-,-⟩:=DataW.trod_int Tryz.underlying3 (show DataW.trod enc Tryz.prog W 0 (fun _=>true) true n2 3 [c2]=some y2 from f2)
   obtain⟨k3,e3,-,-⟩:=DataW.trod_int Tryz.underlying3 (show DataW.trod enc Tryz.prog W 0 (fun _=>true) true n2 3 [c3]=some y3 from f3)
   simp only[List.cons.injEq,and_true] at e0 e1 e2 e3
   subst e0 e1 e2 e3
   exact⟨⟨k0,k1,k2,k3⟩,rfl⟩
theorem Ztb {fuel:Nat} {v:Value} {y:DataW H×List MemPlace} (h:DataW.trod enc Tryz.prog W 0 (fun _=>true) true fuel 64 [v]=some y) :
  ∃ (l:List Opt) (ao:Option Addr) (n c:Nat),v = .slice ao n c∧n=l.length∧n≤c∧n≤9223372036854775807∧Zak Zv2 W ao l:=by
 obtain⟨ao,n,c,e4,hmc,hcm,hel⟩:=Zbg Tryz.underlying64 Zzc (by decide) h
 have hlen:n≤9223372036854775807:=Nat.le_trans hmc (Nat.le_trans hcm (by decide))
 rcases hel with h0 | ⟨g,off,n',h1,h2,h3,h4⟩
 ·exact⟨[],ao,n,c,e4,h0,hmc,hlen,.inl rfl⟩
 ·obtain⟨l,hl,hk⟩:=Zcc (α:=Opt) n (fun i b=>Zar W g (off+i*5) (Zv2 b)) (fun i hi=>by
   obtain⟨cs,y,h5,h6,h7⟩:=h4 i hi
   obtain⟨xs,n2,hn,-,hl,hxl,hf⟩:=DataW.trod_struct Tryz.underlying69 h7
   match cs,h5 with
   | [c0,c1,c2,c3,c4],_ =>
    match xs,hxl with
    | [y0,y1],_ =>
     have f0:DataW.trod enc Tryz.prog W 0 (fun _=>true) true n2 39 (([c0,c1,c2,c3,c4]:List Value).drop 0 |>.take (Tryz.prog.cellsOf 39))=some y0:=hf 0 _ rfl
     have f1:DataW.trod enc Tryz.prog W 0 (fun _=>true) true n2 3 (([c0,c1,c2,c3,c4]:List Value).drop 4 |>.take (Tryz.prog.cellsOf 3))=some y1:=hf 1 _ rfl
     rw[Zx7] at f0
     rw[cI] at f1
     obtain⟨x,hx⟩:=Zvp rfl (show DataW.trod enc Tryz.prog W 0 (fun _=>true) true n2 39 [c0,c1,c2,c3]=some y0 from f0)
     obtain⟨k,e1,-,-⟩:=DataW.trod_int Tryz.underlying3 (show DataW.trod enc Tryz.prog W 0 (fun _=>true) true n2 3 [c4]=some y1 from f1)
     simp only[List.cons.injEq,and_true] at e1
     subst e1
     refine⟨⟨x,k⟩,?_⟩
     show Zar W g (off+i*5) (Zbu x++[.int .i64 k])
     rw[← hx]
     exact h6)
  refine⟨l,ao,n,c,e4,hl.symm,hmc,hlen,.inr ⟨g,off,h1,h2,fun j u hj=>?_⟩⟩
  have hjl:=(List.getElem?_eq_some_iff.1 hj).1
  rw[Zba Zv2 5 Zdf] at hjl
  have hi:j/5<l.length:=by omega
  have hb:=List.getElem?_eq_getElem hi
  have hjj:j=j/5*5+j%5:=by omega
  have h9:=(hk (j/5) _ hb) (j%5) u (by
   rw[← Zb2 Zv2 5 Zdf l (j/5) (j%5) _ hb (Nat.mod_lt _ (by decide)),← hjj];exact hj)
  rwa [Nat.add_assoc,← hjj] at h9
theorem Ztc {r:Reach} {b0:Nat} {v:Value} {d:DataW H} {p:List MemPlace} (hv:Value.okWide Tryz.prog W r b0 64 v) (h:DataW.Trod enc Tryz.prog W 0 (fun _=>true) true 64 v d p) :
  ∃ (l:List Opt) (ao:Option Addr) (n c:Nat),v = .slice ao n c∧n=l.length∧n≤9223372036854775807∧Zak Zv2 W ao l:=by
 obtain⟨a0,len,cap,rfl⟩:=okWide_slice Tryz.underlying64 hv
 obtain⟨fuel,hf⟩:=h
 obtain⟨l,ao,n,c,h1,h2,h3,h4,h5⟩:=Ztb (show DataW.trod enc Tryz.prog W 0 (fun _=>true) true fuel 64 [.slice a0 len cap]=some (d,p) from hf)
 exact⟨l,ao,n,c,h1,h2,h4,h5⟩
theorem Ztd {r:Reach} {b0:Nat} {v:Value} {d:DataW H} {p:List MemPlace} (hv:Value.okWide Tryz.prog W r b0 56 v) (h:DataW.Trod enc Tryz.prog W 0 (fun _=>true) true 56 v d p) :
  ∃ (l:List Wsh) (ao:Option Addr) (n c:Nat),v = .slice ao n c∧n=l.length∧n≤9223372036854775807∧Zak Zm0 W ao l:=by
 obtain⟨a0,len,cap,rfl⟩:=okWide_slice Tryz.underlying56 hv
 obtain⟨fuel,hf⟩:=h
 obtain⟨l,ao,n,c,h1,h2,h3,h4,-,h5⟩:=Zs6 (show DataW.trod enc Tryz.prog W 0 (fun _=>true) true fuel 56 [.slice a0 len cap]=some (d,p) from hf)
 exact⟨l,ao,n,c,h1,h2,h4,h5⟩
end
end
end Go.Proofs.YtbcgocpihobjnaaGreatDoor
