import Derived.Test.YtbcgocpihobjnaaGreatDoorCC49
import Derived.Test.YtbcgocpihobjnaaGreatDoorCC45
import Derived.Test.YtbcgocpihobjnaaGreatDoorCC43
import Derived.Test.YtbcgocpihobjnaaGreatDoorCC37
import Derived.Test.YtbcgocpihobjnaaGreatDoorCC42
import Derived.Test.YtbcgocpihobjnaaGreatDoorCC23
import Derived.Test.YtbcgocpihobjnaaGreatDoorCC11
import Derived.Test.YtbcgocpihobjnaaGreatDoorCC46
import Derived.Test.YtbcgocpihobjnaaGreatDoorCC39
set_option linter.all false
set_option maxHeartbeats 32000000
set_option maxRecDepth 100000
namespace Go.Proofs.YtbcgocpihobjnaaGreatDoor
section
open Go Go.ChangeShapes Go.WideShapes Go.ChangeAt Go.WideMaps Go.WideElems Go.RowKit
theorem Z5g:Tryz.prog.cellsOf 44=3:=by kernel_rfl
theorem Z4r:Tryz.prog.cellsOf 39=4:=by kernel_rfl
theorem cLP:Tryz.prog.cellsOf 22=1:=by kernel_rfl
theorem cLB:Tryz.prog.cellsOf 42=1:=by kernel_rfl
theorem cLI:Tryz.prog.cellsOf 33=1:=by kernel_rfl
theorem cLM:Tryz.prog.cellsOf 23=1:=by kernel_rfl
theorem cLS:Tryz.prog.cellsOf 24=1:=by kernel_rfl
instance:Inhabited Use:=⟨⟨0,0,0,0⟩⟩
instance:Inhabited Wsh:=⟨⟨0,0⟩⟩
instance:Inhabited Mem:=⟨⟨[],[],0⟩⟩
section
variable {H:Type} {enc:TypeId×Value->H} {W:World}
theorem Zx7{fuel:Nat}{v:Value}{y:DataW H×List MemPlace}(h:DataW.trod enc Tryz.prog W 0 (fun _=>true) true fuel 33 [v]=some y) :
  ∃ (l:List Int) (ao:Option Addr) (n c:Nat),v = .slice ao n c/\n=l.length/\n<=c/\n<=9223372036854775807/\Zan Zbg W ao l:=by
 obtain⟨ao,n,c,e4,hmc,hcm,hel⟩:=Zcs Tryz.underlying33 cI (by decide) h;have hlen:n<=9223372036854775807:=đo hmc (đo hcm (by decide));rcases hel with h0 | ⟨g,off,n',h1,h2,h3,h4⟩
 ·exact⟨[],ao,n,c,e4,h0,hmc,hlen,.inl rfl⟩
 ·obtain⟨l,hl,hk⟩:=Zd2 (α:=Int) n (fun i x=>W.cell? ⟨g,off+i,none⟩=some (.int .i64 x)) (fun i hi=>by
   obtain⟨cs,y,h5,h6,h7⟩:=h4 i hi
   match cs,h5 with
   | [c0],_ =>
    obtain⟨k,e0,-,-⟩:=DataW.trod_int Tryz.underlying3 h7;simp only[List.cons.injEq,and_true] at e0;subst e0;have:=h6 0 _ rfl;rw[Nat.mul_one,Nat.add_zero] at this
    exact⟨k,this⟩)
  refine⟨l,ao,n,c,e4,hl.symm,hmc,hlen,.inr ⟨g,off,h1,h2,fun j u hj=>?_⟩⟩;rw[<- Zed,ivs,đj] at hj;obtain⟨x,hx,rfl⟩:=Option.map_eq_some_iff.1 hj;exact hk j x hx
theorem Zx8{fuel:Nat}{v:Value}{y:DataW H×List MemPlace}(h:DataW.trod enc Tryz.prog W 0 (fun _=>true) true fuel 22 [v]=some y) :
  ∃ (l:List Prd) (ao:Option Addr) (n c:Nat),v = .slice ao n c/\n=l.length/\n<=c/\n<=9223372036854775807/\Zfu W (fun _=>True) l ao/\(∀ p∈l,ByL p)/\(∀ p∈l,Zp0 p):=by
 obtain⟨ao,n,c,e4,hmc,hcm,hel⟩:=Zcs Tryz.underlying22 cP (by decide) h;have hlen:n<=9223372036854775807:=đo hmc (đo hcm (by decide));rcases hel with h0 | ⟨g,off,n',h1,h2,h3,h4⟩
 ·exact⟨[],ao,n,c,e4,h0,hmc,hlen,.inl rfl,by simp,by simp⟩
 ·obtain⟨ks,hkl,hk⟩:=Zd2 (α:=Prd) n (fun i p=>(∃ vs,Zao W (fun g=>g<W.heap.size) p vs/\Zav W g (off+i*5) vs)/\ByL p/\Zp0 p) (fun i hi=>by
   obtain⟨cs,y,h5,h6,h7⟩:=h4 i hi;obtain⟨p,hp1,hp2,hp3⟩:=Zxh n' cs y h7
   exact⟨p,⟨cs,hp1,h6⟩,hp2,hp3⟩)
  have hpr:Zfu W (fun g=>g<W.heap.size) ks ao:=.inr ⟨g,off,h1,h2,h2,Zm6 ks g off (fun i p hp=>(hk i p hp).1)⟩;refine⟨ks,ao,n,c,e4,hkl.symm,hmc,hlen,hpr.mono (fun _ _ _=>trivial),fun q hq=>?_,fun q hq=>?_⟩
  ·obtain⟨i,hi⟩:=đs.1 hq
   exact(hk i q hi).2.1
  ·obtain⟨i,hi⟩:=đs.1 hq
   exact(hk i q hi).2.2
theorem Zx9{fuel:Nat}{v:Value}{y:DataW H×List MemPlace}(h:DataW.trod enc Tryz.prog W 0 (fun _=>true) true fuel 42 [v]=some y) :
  ∃ (l:List Bnd) (ao:Option Addr) (n c:Nat),v = .slice ao n c/\n=l.length/\n<=c/\n<=9223372036854775807/\(∀ b∈l,NmL b.n)/\Zan Z1h W ao l:=by
 obtain⟨ao,n,c,e4,hmc,hcm,hel⟩:=Zcs Tryz.underlying42 cB (by decide) h;have hlen:n<=9223372036854775807:=đo hmc (đo hcm (by decide));rcases hel with h0 | ⟨g,off,n',h1,h2,h3,h4⟩
 ·exact⟨[],ao,n,c,e4,h0,hmc,hlen,by simp,.inl rfl⟩
 ·obtain⟨l,hl,hk⟩:=Zd2 (α:=Bnd) n (fun i b=>(NmL b.n)/\Zav W g (off+i*2) (Z1h b)) (fun i hi=>by
   obtain⟨cs,y,h5,h6,h7⟩:=h4 i hi;obtain⟨xs,n2,hn,-,hl,hxl,hf⟩:=DataW.trod_struct Tryz.underlying164 h7
   match cs,h5 with
   | [c0,c1],_ =>
    match xs,hxl with
    | [y0,y1],_ =>
     have f0:DataW.trod enc Tryz.prog W 0 (fun _=>true) true n2 9 (([c0,c1]:List Value).drop 0 |>.take (Tryz.prog.cellsOf 9))=some y0:=hf 0 _ rfl;have f1:DataW.trod enc Tryz.prog W 0 (fun _=>true) true n2 3 (([c0,c1]:List Value).drop 1 |>.take (Tryz.prog.cellsOf 3))=some y1:=hf 1 _ rfl;rw[cS] at f0;rw[cI] at f1;obtain⟨s0,e0,-,z0⟩:=DataW.trod_string Tryz.underlying9 (show DataW.trod enc Tryz.prog W 0 (fun _=>true) true n2 9 [c0]=some y0 from f0);obtain⟨k1,e1,-,-⟩:=DataW.trod_int Tryz.underlying3 (show DataW.trod enc Tryz.prog W 0 (fun _=>true) true n2 3 [c1]=some y1 from f1);simp only[List.cons.injEq,and_true] at e0 e1;subst e0 e1;obtain⟨l0,rfl,b0,g0⟩:=Zfa s0
     exact⟨⟨l0,k1⟩,⟨b0,by rw[g0];exact đo z0 (by decide)⟩,h6⟩)
  refine⟨l,ao,n,c,e4,hl.symm,hmc,hlen,fun b hb=>?_,.inr ⟨g,off,h1,h2,fun j u hj=>?_⟩⟩
  ·obtain⟨i,hi⟩:=đs.1 hb
   exact(hk i b hi).1
  ·have hjl:=(đg.1 hj).1
   rw[Zb9 Z1h 2 Zm3] at hjl
   have hi:j/2<l.length:=by omega
   have hb:=đb hi
   have hjj:j=j/2*2+j%2:=by omega
   have h9:=(hk (j/2) _ hb).2 (j%2) u (by
    rw[<- Zdg Z1h 2 Zm3 l (j/2) (j%2) _ hb (Nat.mod_lt _ (by decide)),<- hjj];exact hj)
   rwa [Nat.add_assoc,<- hjj] at h9
theorem Zya{fuel:Nat}{v:Value}{y:DataW H×List MemPlace}(h:DataW.trod enc Tryz.prog W 0 (fun _=>true) true fuel 24 [v]=some y) :
  ∃ (l:List Use) (ao:Option Addr) (n c:Nat),v = .slice ao n c/\n=l.length/\n<=c/\n<=9223372036854775807/\(∀ b∈l,True)/\Zan Zcg W ao l:=by
 obtain⟨ao,n,c,e4,hmc,hcm,hel⟩:=Zcs Tryz.underlying24 Z4r (by decide) h;have hlen:n<=9223372036854775807:=đo hmc (đo hcm (by decide));rcases hel with h0 | ⟨g,off,n',h1,h2,h3,h4⟩
 ·exact⟨[],ao,n,c,e4,h0,hmc,hlen,by simp,.inl rfl⟩
 ·obtain⟨l,hl,hk⟩:=Zd2 (α:=Use) n (fun i b=>(True)/\Zav W g (off+i*4) (Zcg b)) (fun i hi=>by
   obtain⟨cs,y,h5,h6,h7⟩:=h4 i hi;obtain⟨xs,n2,hn,-,hl,hxl,hf⟩:=DataW.trod_struct Tryz.underlying39 h7
   match cs,h5 with
   | [c0,c1,c2,c3],_ =>
    match xs,hxl with
    | [y0,y1,y2,y3],_ =>
     have f0:DataW.trod enc Tryz.prog W 0 (fun _=>true) true n2 3 (([c0,c1,c2,c3]:List Value).drop 0 |>.take (Tryz.prog.cellsOf 3))=some y0:=hf 0 _ rfl;have f1:DataW.trod enc Tryz.prog W 0 (fun _=>true) true n2 3 (([c0,c1,c2,c3]:List Value).drop 1 |>.take (Tryz.prog.cellsOf 3))=some y1:=hf 1 _ rfl;have f2:DataW.trod enc Tryz.prog W 0 (fun _=>true) true n2 3 (([c0,c1,c2,c3]:List Value).drop 2 |>.take (Tryz.prog.cellsOf 3))=some y2:=hf 2 _ rfl;have f3:DataW.trod enc Tryz.prog W 0 (fun _=>true) true n2 3 (([c0,c1,c2,c3]:List Value).drop 3 |>.take (Tryz.prog.cellsOf 3))=some y3:=hf 3 _ rfl;rw[cI] at f0;rw[cI] at f1;rw[cI] at f2;rw[cI] at f3;obtain⟨k0,e0,-,-⟩:=DataW.trod_int Tryz.underlying3 (show DataW.trod enc Tryz.prog W 0 (fun _=>true) true n2 3 [c0]=some y0 from f0);obtain⟨k1,e1,-,-⟩:=DataW.trod_int Tryz.underlying3 (show DataW.trod enc Tryz.prog W 0 (fun _=>true) true n2 3 [c1]=some y1 from f1);obtain⟨k2,e2,-,-⟩:=DataW.trod_int Tryz.underlying3 (show DataW.trod enc Tryz.prog W 0 (fun _=>true) true n2 3 [c2]=some y2 from f2);obtain⟨k3,e3,-,-⟩:=DataW.trod_int Tryz.underlying3 (show DataW.trod enc Tryz.prog W 0 (fun _=>true) true n2 3 [c3]=some y3 from f3);simp only[List.cons.injEq,and_true] at e0 e1 e2 e3;subst e0 e1 e2 e3
     exact⟨⟨k0,k1,k2,k3⟩,trivial,h6⟩)
  refine⟨l,ao,n,c,e4,hl.symm,hmc,hlen,fun b hb=>?_,.inr ⟨g,off,h1,h2,fun j u hj=>?_⟩⟩
  ·obtain⟨i,hi⟩:=đs.1 hb
   exact(hk i b hi).1
  ·have hjl:=(đg.1 hj).1
   rw[Zb9 Zcg 4 Zbj] at hjl
   have hi:j/4<l.length:=by omega
   have hb:=đb hi
   have hjj:j=j/4*4+j%4:=by omega
   have h9:=(hk (j/4) _ hb).2 (j%4) u (by
    rw[<- Zdg Zcg 4 Zbj l (j/4) (j%4) _ hb (Nat.mod_lt _ (by decide)),<- hjj];exact hj)
   rwa [Nat.add_assoc,<- hjj] at h9
theorem Zyb{fuel:Nat}{v:Value}{y:DataW H×List MemPlace}(h:DataW.trod enc Tryz.prog W 0 (fun _=>true) true fuel 23 [v]=some y) :
  ∃ (l:List Mem) (ao:Option Addr) (n c:Nat),v = .slice ao n c/\n=l.length/\n<=c/\n<=9223372036854775807/\(∀ m∈l,(∀ b∈m.b,NmL b.n)/\m.b.length<=9223372036854775807/\m.t.length<=9223372036854775807)/\Zhr W l ao:=by
 obtain⟨ao,n,c,e4,hmc,hcm,hel⟩:=Zcs Tryz.underlying23 Z5g (by decide) h;have hlen:n<=9223372036854775807:=đo hmc (đo hcm (by decide));rcases hel with h0 | ⟨g,off,n',h1,h2,h3,h4⟩
 ·exact⟨[],ao,n,c,e4,h0,hmc,hlen,by simp,.inl rfl⟩
 ·obtain⟨l,hl,hk⟩:=Zd2 (α:=Mem) n (fun i m=>((∀ b∈m.b,NmL b.n)/\m.b.length<=9223372036854775807/\m.t.length<=9223372036854775807)/\∃ cs,Zur W m cs/\Zav W g (off+i*3) cs) (fun i hi=>by
   obtain⟨cs,y,h5,h6,h7⟩:=h4 i hi;obtain⟨xs,n2,hn,-,hl,hxl,hf⟩:=DataW.trod_struct Tryz.underlying44 h7
   match cs,h5 with
   | [c0,c1,c2],_ =>
    match xs,hxl with
    | [y0,y1,y2],_ =>
     have f0:DataW.trod enc Tryz.prog W 0 (fun _=>true) true n2 42 (([c0,c1,c2]:List Value).drop 0 |>.take (Tryz.prog.cellsOf 42))=some y0:=hf 0 _ rfl;have f1:DataW.trod enc Tryz.prog W 0 (fun _=>true) true n2 33 (([c0,c1,c2]:List Value).drop 1 |>.take (Tryz.prog.cellsOf 33))=some y1:=hf 1 _ rfl;have f2:DataW.trod enc Tryz.prog W 0 (fun _=>true) true n2 3 (([c0,c1,c2]:List Value).drop 2 |>.take (Tryz.prog.cellsOf 3))=some y2:=hf 2 _ rfl;rw[cLB] at f0;rw[cLI] at f1;rw[cI] at f2;obtain⟨bl,bo,bn,bc,e0,hb1,hb2,hb3,hb4,hb5⟩:=Zx9 (show DataW.trod enc Tryz.prog W 0 (fun _=>true) true n2 42 [c0]=some y0 from f0);obtain⟨tl,ta,tn,tc,e1,ht1,ht2,ht3,ht4⟩:=Zx7 (show DataW.trod enc Tryz.prog W 0 (fun _=>true) true n2 33 [c1]=some y1 from f1);obtain⟨k,e2,-,-⟩:=DataW.trod_int Tryz.underlying3 (show DataW.trod enc Tryz.prog W 0 (fun _=>true) true n2 3 [c2]=some y2 from f2);simp only[List.cons.injEq,and_true] at e2;subst e0 e1 e2 hb1 ht1;refine⟨⟨bl,tl,k⟩,⟨hb4,hb3,ht3⟩,_,⟨bo,bc,ta,tc,rfl,?_,ht4⟩,h6⟩;rcases hb5 with hb5 | ⟨g5,o5,q1,q2,q3⟩
     ·exact .inl hb5
     ·exact .inr ⟨g5,o5,q1,trivial,q2,q3⟩)
  refine⟨l,ao,n,c,e4,hl.symm,hmc,hlen,fun m hm=>?_,.inr ⟨g,off,h1,h2,fun i m hm=>(hk i m hm).2⟩⟩;obtain⟨i,hi⟩:=đs.1 hm;exact(hk i m hi).1
theorem Z05{r:Reach}{b0:Nat}{v:Value}{d:DataW H}{p:List MemPlace}(hv:Value.okWide Tryz.prog W r b0 26 v)(h:DataW.Trod enc Tryz.prog W 0 (fun _=>true) true 26 v d p) :
  ∃ (c:Crw) (cs:List Value),v = .agg cs.toArray/\Zhs W c cs/\LenC c/\(∀ p∈c.qs,ByL p)/\(∀ m∈c.ms,∀ b∈m.b,NmL b.n):=by
 obtain⟨cs,rfl,hsz⟩:=okWide_struct Tryz.underlying26 hv;obtain⟨fuel,hf⟩:=h;have hcs:(Value.agg cs).cells=cs:=rfl;rw[hcs] at hf;obtain⟨xs,n2,hn,-,hl,hxl,hf⟩:=DataW.trod_struct Tryz.underlying26 hf
 have hl3:cs.toList.length=3:=by rw[hl];kernel_rfl
 obtain⟨l0⟩:=cs
 match l0,hl3 with
 | [c0,c1,c2],_ =>
  match xs,hxl with
  | [y0,y1,y2],_ =>
   have f0:DataW.trod enc Tryz.prog W 0 (fun _=>true) true n2 22 (([c0,c1,c2]:List Value).drop 0 |>.take (Tryz.prog.cellsOf 22))=some y0:=hf 0 _ rfl;have f1:DataW.trod enc Tryz.prog W 0 (fun _=>true) true n2 23 (([c0,c1,c2]:List Value).drop 1 |>.take (Tryz.prog.cellsOf 23))=some y1:=hf 1 _ rfl;have f2:DataW.trod enc Tryz.prog W 0 (fun _=>true) true n2 24 (([c0,c1,c2]:List Value).drop 2 |>.take (Tryz.prog.cellsOf 24))=some y2:=hf 2 _ rfl;rw[cLP] at f0;rw[cLM] at f1;rw[cLS] at f2;obtain⟨ql,qo,qn,qc,e0,hq1,hq2,hq3,hq4,hq5,hq6⟩:=Zx8 (show DataW.trod enc Tryz.prog W 0 (fun _=>true) true n2 22 [c0]=some y0 from f0);obtain⟨ml,mo,mn,mc,e1,hm1,hm2,hm3,hm4,hm5⟩:=Zyb (show DataW.trod enc Tryz.prog W 0 (fun _=>true) true n2 23 [c1]=some y1 from f1);obtain⟨ul,uo,un,uc,e2,hu1,hu2,hu3,-,hu5⟩:=Zya (show DataW.trod enc Tryz.prog W 0 (fun _=>true) true n2 24 [c2]=some y2 from f2);subst e0 e1 e2 hq1 hm1 hu1;exact⟨⟨ql,ml,ul⟩,_,rfl,⟨qo,qc,mo,mc,uo,uc,rfl,hq4,hm5,hu5,hu2⟩,⟨hq6,fun m hm=>(hm4 m hm).2,hq3,hm3,hu3⟩,hq5,fun m hm=>(hm4 m hm).1⟩
end
theorem Z2x{c:Crw}(hf:Z2w c=true)(hL:LenC c)(hb:∀ p∈c.qs,ByL p)(hm:∀ m∈c.ms,∀ b∈m.b,NmL b.n):CrwOk c/\c.us.length<=999/\c.ms.length<=65/\c.qs.length<=129:=by
 unfold Z2w at hf;simp only[đi,List.all_eq_true] at hf;obtain⟨⟨h1,h2⟩,h3⟩:=hf;unfold Zfe at h1;simp only[đi,Bool.or_eq_true,decide_eq_true_eq] at h1;refine⟨⟨fun p hp=>⟨hb p hp,?_⟩,fun m hmm=>⟨hm m hmm,?_,?_⟩,by omega,by omega,by omega⟩,by omega,by omega,by omega⟩
 ·have:=Zv9 (h2 p hp);omega
 ·have:=h3 m hmm
  unfold Zuv at this;simp only[đi,decide_eq_true_eq] at this;omega
 ·have:=h3 m hmm
  unfold Zuv at this;simp only[đi,decide_eq_true_eq] at this;omega
end
section
open Go.RowKit Go.Sort Go.Maps
def shr(c:Crw)(u:Int)(k:Nat):Nat:=Zgv (Za1 c (Zcy c (Za7 c) u.toNat k))
def Zci(c:Crw)(u:Int):List Nat×Nat:=if (Zal c&&Zco u c.us.length)=true then(if (Zc9 (Za1 c (Za7 c))).2=0 then((List.range c.ms.length).map (shr c u),0) else([],(Zc9 (Za1 c (Za7 c))).2)) else([],1)
def Zqn(w w':World)(l:List Nat)(n:Nat)(e:Ending):Prop:=Below w.heap.size w w'/\∃ o cap,e = .returned (.tuple #[.slice o l.length cap,.int .i64 (n:Int)])/\Zan Zbg w' o (l.map Int.ofNat)
theorem Zqo{T:Tbl}(h:(Zc9 T).2=0):∀ k,k<16->(Zcu T k).length<=12:=by
 intro k hk;unfold Zc9 at h
 split at h
 ·cases h
 ·rename_i h2
  rcases đw 12 (Zcu T k).length with h3 | h3
  ·exact absurd (List.any_eq_true.2 ⟨k,List.mem_range.2 hk,by simpa using h3⟩) h2
  ·exact h3
theorem Zf9{α:Type}(f:Nat->α)(k:Nat):(List.range (k+1)).map f=(List.range k).map f++[f k]:=by rw[List.range_succ,List.map_append];rfl
theorem Zqp(w:World)(c:Crw)(cs:List Value)(B:Nat)(u:Int)(ha:ArgC w c cs B) :
  Calls Tryz.prog 43 #[.agg cs.toArray,.int .i64 u] w fun e w'=>Zqn w w' (Zci c u).1 (Zci c u).2 e:=by
 have HOP:=ħ (fun W (hW:Below w.heap.size w W)=>Zd4 W c cs (ha.below hW).crw B (ha.below hW).tab ha.ok);have HNU:=ha.nu;have HRK:=ħ (fun(h:Zal c=true)=>Zaw h (by omega));have HVP:=ħ (fun(h:Zal c=true)=>Zau h);have hnq0:=ha.ok.nq;have hnm0:=ha.ok.nm;have HPA:Hid (Zci c u=if (Zal c&&Zco u c.us.length)=true then(if (Zc9 (Za1 c (Za7 c))).2=0 then((List.range c.ms.length).map (shr c u),0) else([],(Zc9 (Za1 c (Za7 c))).2)) else([],1)):=ħ rfl;generalize Zci c u=PA at *;have HIX:Hid (Zco u c.us.length=inB u 0 ((c.us.length:Int)-1)):=ħ rfl;have HIN:=ħ (fun h=>Zbx (u:=u) (n:=c.us.length) h);obtain⟨qo,qc,mo,mc,uo,uc,rfl,hq0,hm0,hu0,-⟩:=ha.crw;unfold Z0c at HOP;clear ha hq0 hm0 hu0;generalize hnq:c.qs.length=nq at *;generalize hnm:c.ms.length=nm at *;generalize hnu:c.us.length=nu at *;have HQE:=ħ hnq;have HME:=ħ hnm;have HUE:=ħ hnu;clear hnq hnm hnu;generalize hvc:Zal c=vc at *;have HVC:=ħ hvc;clear hvc;have X1:Hid (Zae (w.alloc (.cells #[.slice qo nq qc,.slice mo nm mc,.slice uo nu uc] 26)) w.heap.size 26 [.slice qo nq qc,.slice mo nm mc,.slice uo nu uc]):=ħ (heap_alloc_new w _);have B1:=ħ ((đc w.heap.size w).alloc (đd _) (.cells #[.slice qo nq qc,.slice mo nm mc,.slice uo nu uc] 26))
 go_enter Tryz.func43,Tryz.ntmps43
 go_upto_region 1 with(fail)
 generalize w.alloc (.cells #[.slice qo nq qc,.slice mo nm mc,.slice uo nu uc] 26)=w1 at *;have c0:=X1.o.cell 0 _ rfl;have c1:=X1.o.cell 1 _ rfl;have c2:=X1.o.cell 2 _ rfl;have HCL:=ħ (HOP.o w1 B1.o);clear HOP
 go_wp2_with fail
 refine HCL.o.mono ?_;intro e w2 hq;obtain⟨hres,b2⟩:=hq;have B2:=ħ (B1.o.trans (b2.mono B1.o.size));have X2:=ħ (X1.o.step b2);clear b2 c0 c1 c2 B1 X1 HCL
 cases vc with
 | false =>
  rw[if_neg (by decide)] at hres;subst hres;have HPN:Hid (PA=([],1)):=ħ (by rw[HPA.o];rfl);clear HPA
  go_wp2_with fail
  go_ret2
  rw[HPN.o];exact⟨B2.o,none,0,rfl,.inl rfl⟩
 | true =>
  rw[if_pos rfl] at hres;obtain⟨A,rfl,hR,-⟩:=hres;have HR:=ħ hR;have HOK:=ħ (HRK.o rfl)
  have hm64:nm<=64:=by exact(HVP.o rfl).2.1
  clear hR HRK;have c2:=X2.o.cell 2 _ rfl;have HWI:=ħ (Zbn u 0 ((nu:Int)-1) w2);rw[<- HIX.o] at HWI;have ew:IntKind.i64.wrap ((nu:Int)-1)=(nu:Int)-1:=đh _ (by omega);generalize hib:Zco u nu=ib at *;have HIB:=ħ hib;clear hib
  go_wp2_with fail
  refine HWI.o.mono ?_;rintro e w3 ⟨rfl,rfl⟩;clear HWI c2
  cases ib with
  | false =>
   have HPN:Hid (PA=([],1)):=ħ (by rw[HPA.o];rfl);clear HPA
   go_wp2_with fail
   go_ret2
   rw[HPN.o];exact⟨B2.o,none,0,rfl,.inl rfl⟩
  | true =>
   obtain⟨un,rfl,hun⟩:=HIN.o rfl;have HPN:Hid (PA=if (Zc9 (Za1 c (Za7 c))).2=0 then((List.range nm).map (shr c (un:Int)),0) else([],(Zc9 (Za1 c (Za7 c))).2)):=ħ (by rw[HPA.o];rfl);clear HPA;have HPO:=ħ (Zj3 w2 A c (Zaj c) (Za7 c) HR.o HOK.o);have HGR:=ħ (fun h=>Zqo (T:=Za1 c (Za7 c)) h)
   have HFX:Hid (∀ k,k<nm->∀ W,Below w2.heap.size w2 W->Calls Tryz.prog 84 #[.pointer (some ⟨A,0,none⟩),.int .i64 (un:Int),.int .i64 (k:Int)] W fun e w'=>∃ X,e = .returned (.pointer (some ⟨X,0,none⟩))/\Zbo w' X c (Zaj c) (Zcy c (Za7 c) un k)/\W.heap.size<=X/\Below W.heap.size W w'):=ħ (fun k hk W hW =>
    Zm9 W A c (Zaj c) (Za7 c) un k (HR.o.below hW) (by rw[HOK.o.len,HUE.o];exact hun) (by rw[HME.o];exact hk) HOK.o.row (by rw[HOK.o.len,HUE.o];omega) (by rw[HME.o];omega))
   have HCT:=ħ (fun k W X (hX:Zbo W X c (Zaj c) (Zcy c (Za7 c) un k)) (hg:∀ k,k<16->(Zcu (Za1 c (Za7 c)) k).length<=12)=>Zpa W X c (Zaj c) (Zcy c (Za7 c) un k) hX (HOK.o.fix un k) hg);have HSH:Hid (∀ k,Zgv (Za1 c (Zcy c (Za7 c) un k))=shr c (un:Int) k):=ħ (fun k=>rfl)
   have HSL:Hid (∀ k,shr c (un:Int) k<=1152921504606846977):=ħ (fun k=>by
    unfold shr
    have hwn:∀ v,v<c.us.length->(Za1 c (Zcy c (Za7 c) un k)).win v<16:=fun v hv=>by
     obtain⟨g1,g2,g3⟩:=Z2u (HOK.o.fix un k) hv;omega
    rw[Z1t _ hwn]
    exact Nat.min_le_left _ _)
   generalize (Zc9 (Za1 c (Za7 c))).1=CD at *;obtain⟨CE,hce⟩:∃ x,(Zc9 (Za1 c (Za7 c))).2=x:=⟨_,rfl⟩;rw[hce] at HPO HPN HGR;clear hce;generalize shr c (un:Int)=sf at *
   go_wp2_with fail
   refine HPO.o.mono ?_;rintro e w3 ⟨rfl,b3⟩;have B3:=ħ (B2.o.trans (b3.mono B2.o.size));have X3:=ħ (X2.o.step b3);have L3:=ħ b3;clear b3 HPO X2;by_cases hc0:CE=0
   ·subst hc0
    have HPN2:Hid (PA=((List.range nm).map sf,0)):=ħ (by rw[HPN.o,if_pos rfl]);have HGG:=ħ (HGR.o rfl);have c1:=X3.o.cell 1 _ rfl;clear HPN HGR
    go_upto_region 9 with(fail)
    clear c1 X3
    go_wp2_with fail
    go_loopw [39,10] (fun kv ov wr=>∃ (k:Nat) (o:Option Addr) (cap:Nat),kv = .int .i64 k/\ov = .slice o k cap/\k<=nm/\Hid (OwnK wr w2.heap.size 1 k cap (Za0 ((List.range k).map sf)) o)/\Hid (Below w2.heap.size w2 wr)) (fun k _ _=>(nm-intOf k).toNat)
    case atStart=>exact⟨0,none,0,rfl,rfl,by omega,ħ (.nil rfl rfl rfl),L3⟩
    case round =>
     clear B3 L3;obtain⟨k,o,cap,rfl,rfl,hk,HO,L4⟩:=hrel;have e2:IntKind.i64.wrap ((k:Int)+1)=((k+1:Nat):Int):=đh _ (by omega);by_cases hkn:k<nm
     ·have kk:(k:Int)<nm:=by omega
      have HC1:=ħ (HFX.o k hkn wr L4.o);have HNX:=ħ (Zf9 sf k);have hsl:=HSL.o k
      go_wp2_with fail
      refine HC1.o.mono ?_;clear HC1;intro e w5 hq;obtain⟨X,rfl,hX,-,hb5⟩:=hq;have HB5:=ħ hb5;have HCX:=ħ (HCT.o k w5 X hX HGG.o);rw[HSH.o k] at HCX;clear hX hb5;obtain⟨sv,hsv⟩:∃ x,sf k=x:=⟨_,rfl⟩;rw[hsv] at HCX HNX hsl;clear hsv
      go_wp2_with fail
      refine HCX.o.mono ?_;clear HCX;rintro e w6 ⟨rfl,hb6⟩;have HB6:=ħ (HB5.o.trans (hb6.mono HB5.o.size));have O6:=ħ (HO.o.below HB6.o);have L6:=ħ (L4.o.trans (HB6.o.mono L4.o.size));clear hb6 HB5 HB6 HO L4
      go_upto_region 12 with(at_builtin;refine Zcn 33 3 (.int .i64 0) 1 8 Tryz.underlying33 Zbl rfl (by omega) (by omega) w6 w2.heap.size rfl (.tmp 42) (.tmp 48) rfl o cap k (Za0 ((List.range k).map sf)) ?q1 O6.o L6.o.size 1 1 #[.int .i64 (sv:Int)] 3 ?q2 rfl (by omega) ?q3 ?q4 ?_;(case q1=>rfl);(case q2=>rfl);(case q3=>simp[Value.oneCell']);(case q4=>omega);intro g5 off5 c5 wa o8 gr8 b8 or8;have O8:=ħ o8;have L8:=ħ (L6.o.trans b8);clear o8 gr8 b8 or8)
      go_wp2_with fail
      go_roundw
      case rel=>exact⟨k+1,_,_,by go_num,rfl,by omega,ħ (by rw[HNX.o,<- Zbt];exact O8.o),L8⟩
      case measure=>simp only[intOf];omega
     ·have kk:¬ (k:Int)<nm:=by omega
      obtain rfl:nm=k:=by omega
      go_wp2_with fail
      go_ret2
      rw[HPN2.o];exact⟨B2.o.trans (L4.o.mono B2.o.size),o,cap,by rw[đr,List.length_range];rfl,Zcm HO.o (by rw[đr,List.length_range])⟩
   ·have hcb:(((CE:Nat):Int) != 0)=true:=by simp;omega
    have HPN2:Hid (PA=([],CE)):=ħ (by rw[HPN.o,if_neg hc0]);clear HPN
    go_wp2_with fail
    go_ret2
    rw[HPN2.o];exact⟨B3.o,none,0,rfl,.inl rfl⟩
end
section
open Go.RowKit Go.Sort Go.Maps
theorem Z06{P:Program}(w:World)(T ty E:TypeId)(i:TypeInfo)(hT:P.underlying T=some (.slice E))(hi:P.info? E=some i)(b:Addr)(n cap:Nat)(x:Option Addr)(c:Nat)(hn:n<=cap) :
  (Builtin.append_ #[T,T] ty #[.slice (some b) n cap,.slice x 0 c]).run P w = .ok (.slice (some b) n cap) w:=by
 cases x<;>simp[Builtin.append_,run_underlying hT,sizeOf,typeInfo,hi,hn,Builtin.lenOf,Builtin.firstCells,loadCells,loadCellsFrom,storeCells]
theorem Z4s {α:Type} (f:α->List Value) {ops:Array Oper} {rest:List Oper} {o:Oper} {a:Act} {Q:Exit->Act->World->Prop} (T E:TypeId) (z:Value) (k bt:Nat)
  (hT:Tryz.prog.underlying T=some (.slice E)) (hE:(Tryz.prog.info? E).map (fun i=>(i.zero,i.size,i.bytes))=some (some z,k,bt)) (hz:z.cells.size=k) (hk:0<k) (hbt:bt<=1000) (hf:∀ x,(f x).length=k) (h1:∀ x,∀ u∈f x,u.oneCell'=true)
  (w1:World) (B:Nat) (hg:o.guard=none) (s x:Operand) (hop:o.op=Op.call { callee:=Callee.builtin Builtin.append,args:=#[s,x],argTypes:=#[T,T] })
  (b0:Addr) (cap n:Nat) (l:List α) (hs:a.eval s = .slice (some b0) n cap) (hO:OwnK w1 B k n cap (l.flatMap f) (some b0)) (hB:B<=w1.heap.size)
  (xo:Option Addr) (m c:Nat) (r:List α) (hx:a.eval x = .slice xo m c) (hm:m=r.length) (hr:Zan f w1 xo r)
  (b1:n+m<=1000000000)
  (hK:∀ g off cap' w',OwnK w' B k (n+m) cap' ((l++r).flatMap f) (some ⟨g,off,none⟩)->Below B w1 w'->wpList Tryz.prog ops Q rest (a.put o.dst (.slice (some ⟨g,off,none⟩) (n+m) cap')) w') :
  wpList Tryz.prog ops Q (o::rest) a w1:=by
 rcases Nat.eq_zero_or_pos m with h0 | h0
 ·have hr0:r=[]:=List.eq_nil_of_length_eq_zero (by omega)
  subst h0;subst hr0;obtain⟨i0,hi,hz0,hz1,hz2⟩:=Zd8 hE;have hrun:=Z06 (P:=Tryz.prog) w1 T o.type E i0 hT hi b0 n cap xo c hO.len_le.1
  obtain⟨g0,o0,hb0⟩:∃ g off,b0=⟨g,off,none⟩:=by cases hO;exact⟨_,_,rfl⟩
  subst hb0
  refine wpList_plain hg fun K hK'=>?_
  unfold Oper.wp;simp[execOp,hop,resolve,invoke,builtin,hs,hx,hrun,Result.andThen];exact hK' _ _ (hK g0 o0 cap w1 (by rw[List.append_nil];exact hO) (đc _ _))
 ·rcases hr with hr | ⟨g,off,rfl,hgl,hrd⟩
  ·rw[hr] at hm;simp at hm;omega
  refine Z4e T E z k bt hT hE hz hk hbt w1 B hg s x hop (some b0) cap n (l.flatMap f) hs hO hB g off m c (r.flatMap f) hx ?_ h0 hrd ?_ b1 ?_
  ·rw[hm,List.length_flatMap,List.map_congr_left (fun x _=>hf x),List.map_const',List.sum_replicate_nat]
  ·intro u hu
   obtain⟨y,-,hy⟩:=List.mem_flatMap.1 hu;exact h1 y u hy
  ·intro g' off' cap' w' ho hgr _
   refine hK g' off' cap' w' (by rw[List.flatMap_append];exact ho) ⟨hgr.os,hgr.tape,hgr.output,hgr.size,fun i hi=>?_⟩;refine hgr.block i (đm hi hB) (fun e=>?_);have:=(hO.blk_lt e.symm).1;omega
theorem Z3r {α:Type} (f:α->List Value) {ops:Array Oper} {rest:List Oper} {o:Oper} {a:Act} {Q:Exit->Act->World->Prop} (T E:TypeId) (z:Value) (k bt:Nat)
  (hT:Tryz.prog.underlying T=some (.slice E)) (hE:(Tryz.prog.info? E).map (fun i=>(i.zero,i.size,i.bytes))=some (some z,k,bt)) (hz:z.cells.size=k) (hk:0<k) (hbt:bt<=1000) (hf:∀ x,(f x).length=k) (h1:∀ x,∀ u∈f x,u.oneCell'=true)
  (w1:World) (B:Nat) (hg:o.guard=none) (s x:Operand) (hop:o.op=Op.call { callee:=Callee.builtin Builtin.append,args:=#[s,x],argTypes:=#[T,T] })
  (b0:Addr) (cap:Nat) (hs:a.eval s = .slice (some b0) 0 cap) (hO:OwnK w1 B k 0 cap [] (some b0)) (hB:B<=w1.heap.size)
  (xo:Option Addr) (m c:Nat) (r:List α) (hx:a.eval x = .slice xo m c) (hm:m=r.length) (hr:Zan f w1 xo r)
  (b1:m<=1000000)
  (hK:∀ g off cap' w',OwnK w' B k m cap' (r.flatMap f) (some ⟨g,off,none⟩)->Below B w1 w'->wpList Tryz.prog ops Q rest (a.put o.dst (.slice (some ⟨g,off,none⟩) m cap')) w') :
  wpList Tryz.prog ops Q (o::rest) a w1:=by
 refine Z4s f T E z k bt hT hE hz hk hbt hf h1 w1 B hg s x hop b0 cap 0 [] hs hO hB xo m c r hx hm hr (by omega) ?_;intro g off cap' w' ho hb;rw[Nat.zero_add] at ho ⊢;exact hK g off cap' w' ho hb
theorem Zae.off{w:World}{g:Nat}{t:TypeId}{cs:List Value}(h:Zae w g t cs){p:Addr}(hp:g≠p.block)(u:Value):Zae (w.setCell p u) g t cs:=by
 unfold Zae;rw[Below.heap_setCell _ _ _ _ hp];exact h
theorem Z34(x:Use):∀ u∈Zcg x,u.oneCell'=true:=by
 intro u hu;unfold Zcg at hu;simp only[List.mem_cons,List.not_mem_nil,or_false] at hu;rcases hu with rfl | rfl | rfl | rfl<;>rfl
theorem Z07(x:Int):∀ u∈Zbg x,u.oneCell'=true:=by
 intro u hu;unfold Zbg at hu;simp only[List.mem_cons,List.not_mem_nil,or_false] at hu;subst hu;rfl
end
section
open Go.RowKit Go.Sort Go.Maps
theorem Zqq(i:Nat)(h:Zmx 8 i):i=0\/i=1\/i=2\/i=3\/i=4\/i=5\/i=6\/i=7\/i=9:=by unfold Zmx at h;omega
end
section
open Go.RowKit Go.Sort Go.Maps
theorem Zd7{w:World}{c:Crw}{cs:List Value}(h:Zhs w c cs):∃ qo qc mo mc uo uc,cs=[.slice qo c.qs.length qc,.slice mo c.ms.length mc,.slice uo c.us.length uc]/\Zhr w c.ms mo/\Zan Zcg w uo c.us:=by
 obtain⟨qo,qc,mo,mc,uo,uc,h1,h2,h3,h4,-⟩:=h;exact⟨qo,qc,mo,mc,uo,uc,h1,h3,h4⟩
theorem Zpg(w:World)(m:Mem)(cs:List Value)(hm:Zur w m cs)(k:Nat)(hk:k<=1000000)(hl:m.t.length<=1000000000) :
  Calls Tryz.prog 129 #[.agg cs.toArray,.int .i64 k] w fun e w'=>e = .returned (.int .i64 (Zcd m.t k))/\Below w.heap.size w w':=by
 obtain⟨bo,bc,to',tc,rfl,-,ht⟩:=hm;have HT:=ħ ht;unfold Zcd;have bx:=(đc w.heap.size w).alloc (đd _) (.cells #[.slice bo m.b.length bc,.slice to' m.t.length tc,.int .i64 m.r] 44);have B1:=ħ bx;have X1:Hid (Zae (w.alloc (.cells #[.slice bo m.b.length bc,.slice to' m.t.length tc,.int .i64 m.r] 44)) w.heap.size 44 [.slice bo m.b.length bc,.slice to' m.t.length tc,.int .i64 m.r]):=ħ (heap_alloc_new w _);have H1:=ħ (HT.o.below bx);clear bx ht HT;generalize m.b.length=nb at *;generalize m.r=mr at *;generalize m.t=tl at *
 go_enter Tryz.func129,Tryz.ntmps129
 go_upto_region 1 with(fail)
 generalize w.alloc (.cells #[.slice bo nb bc,.slice to' tl.length tc,.int .i64 mr] 44)=w1 at *;have x1:=X1.o.cell 1 _ rfl;by_cases hlt:k<tl.length
 ·have kk:(k:Int)<(tl.length:Nat):=by omega
  obtain⟨g,off,hao,hg,hc⟩:=H1.o.at Zaz k tl[k] (đb hlt);have c0:=hc 0 _ rfl;rw[Nat.mul_one,Nat.add_zero] at c0;have HV:Hid (tl.getD k 0=tl[k]):=ħ (by rw[đf,đb hlt];rfl);generalize tl[k]=tk at *;generalize tl.length=tn at *;clear hc hg;subst hao
  go_wp2_with fail
  go_ret;exact⟨Zbb HV.o.symm,B1.o⟩
 ·have kk:¬ (k:Int)<(tl.length:Nat):=by omega
  have HV:Hid (tl.getD k 0=0):=ħ (by rw[đf,List.getElem?_eq_none (by omega)];rfl);generalize tl.length=tn at *
  go_wp2_with fail
  go_ret;exact⟨Zbb HV.o.symm,B1.o⟩
end
section
open Go.RowKit Go.Sort Go.Maps
theorem Zhf(l:List Int):l.flatMap Zbg=l.map (Value.int .i64):=(Zed l).symm
theorem OwnK.intAt{w:World}{B n cap g off:Nat}{l:List Int}(h:OwnK w B 1 n cap (l.flatMap Zbg) (some ⟨g,off,none⟩)){i:Nat}{x:Int}(hx:l[i]?=some x):w.cell? ⟨g,off+i,none⟩=some (.int .i64 x)/\w.frozen? ⟨g,off+i,none⟩=false/\B<=g:=by
 obtain⟨h1,-,h2,h3⟩:=h.reads;have h4:=h.count;have h6:=h.len_le.1;have hi:=(đg.1 hx).1;rw[Zhf] at h1 h4;rw[đr] at h4;exact⟨h1 i _ (by rw[đj,hx];rfl),h3 i (by omega),h2⟩
theorem OwnK.intSet{w:World}{B n cap g off:Nat}{l:List Int}(h:OwnK w B 1 n cap (l.flatMap Zbg) (some ⟨g,off,none⟩)){i:Nat}(hi:i<l.length)(x:Int):OwnK (w.setCell ⟨g,off+i,none⟩ (.int .i64 x)) B 1 n cap ((l.set i x).flatMap Zbg) (some ⟨g,off,none⟩):=by
 have h1:=h.setAt i (by rw[Zhf,đr];exact hi) (.int .i64 x);rw[Zhf,<- List.map_set] at h1;rw[Zhf];exact h1
end
section
open Go.RowKit Go.Sort Go.Maps
theorem Z08 {ops:Array Oper} {rest:List Oper} {o:Oper} {a:Act} {Q:Exit->Act->World->Prop} (T E:TypeId) (z:Value) (k bt:Nat)
  (hT:Tryz.prog.underlying T=some (.slice E)) (hE:(Tryz.prog.info? E).map (fun i=>(i.zero,i.size,i.bytes))=some (some z,k,bt)) (hz:z.cells.size=k) (hk:0<k) (hbt:bt<=1000)
  (w:World) (B:Nat) (hg:o.guard=none) (s x:Operand) (hop:o.op=Op.call { callee:=Callee.builtin Builtin.append,args:=#[s,x],argTypes:=#[T,T] })
  (ao:Option Addr) (cap n:Nat) (xs:List Value) (hs:a.eval s = .slice ao n cap) (hO:OwnK w B k n cap xs ao) (hB:B<=w.heap.size)
  (A m c:Nat) (cs:List Value) (te:TypeId) (hx:a.eval x = .slice (some ⟨A,0,none⟩) m c) (hA:Zae w A te cs) (hm:cs.length=m*k) (hm0:0<m) (h1c:∀ u∈cs,u.oneCell'=true)
  (b1:n+m<=1000000000)
  (hK:∀ g off cap' w',OwnK w' B k (n+m) cap' (xs++cs) (some ⟨g,off,none⟩)->w.grownBy w' (blk ao)->wpList Tryz.prog ops Q rest (a.put o.dst (.slice (some ⟨g,off,none⟩) (n+m) cap')) w') :
  wpList Tryz.prog ops Q (o::rest) a w:=by
 obtain⟨i0,hi,hz0,hz1,hz2⟩:=Zd8 hE;refine Zby w B k hk hg s x T hop E i0 z bt hT hi hz0 hz1 hz2 hz ao cap xs n hs hO hB ⟨A,0,none⟩ m c cs hx hm hm0 (fun j u hj=>hA.addr j u hj) h1c (by simp only[maxLen];omega) (đo (Nat.mul_le_mul b1 hbt) (by decide)) ?_;intro g off cap' w' ho hgr _;exact hK g off cap' w' ho hgr
end
end Go.Proofs.YtbcgocpihobjnaaGreatDoor
