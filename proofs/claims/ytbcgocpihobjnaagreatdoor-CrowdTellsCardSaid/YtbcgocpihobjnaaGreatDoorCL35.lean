import Derived.WideKeyEntry
import Derived.Test.YtbcgocpihobjnaaGreatDoorCL34
import Derived.Test.YtbcgocpihobjnaaGreatDoorCL0
set_option linter.all false
set_option maxHeartbeats 16000000
set_option maxRecDepth 100000
namespace Go.Proofs.YtbcgocpihobjnaaGreatDoor
section
open Go.RowKit Go.Sort Go.Maps Go.WideElems Go.ChangeMaps Go.MapKept
theorem Zm2{w:World}{b:Nat}{o:Obj}(h:w.heap[b]?=some o):setBlock w b o=w:=by
 unfold setBlock
 have:w.heap.setIfInBounds b o=w.heap:=by
  apply Array.ext_getElem?;intro i;rw[Array.getElem?_setIfInBounds];by_cases e:b=i
  ·subst e
   rw[if_pos rfl,if_pos (lI.1 h).1,h]
  ·rw[if_neg e]
 rw[this]
theorem Zw9 {H:Type} {P:Program} {w:World} {t k e:TypeId} {b n:Nat} {D:DataW H} {q:IntKind} (K0:WideMaps.KeyLaw P k) (K:Keyed P k) (ht:P.underlying t=some (.map k e)) (he:P.underlying e=some (.int q)) (hz:∀ u:World,(zeroValue e).run P u = .ok (.int q 0) u)
  (h:w.ownsMap P k (plainElem P e) b n D) (hn:n<maxLen) {key:Value} {kl:Lit} (jY:keyOf P k key=some kl) :
  ∃ (c:Int) (st:Nat) (w1:World),(Instr.mapEntry t (.map (some b)) key).run P w = .ok (.tuple #[.int q c,goInt st]) w1/\(Instr.lookup t (.map (some b)) key false).run P w = .ok (.int q c) w/\(Instr.lookup t (.map (some b)) key false).run P w1 = .ok (.int q c) w1/\D.atKey kl (.lit (.int q 0)) = .lit (.int q c) /\
   ∀ x:Int,(Lit.int q x).wf=true->∃ w2,(Instr.entryStore t (.map (some b)) (goInt st) (.int q x)).run P w1 = .ok () w2/\w2.ownsMap P k (plainElem P e) b (n+1) (D.put kl (.lit (.int q x)))/\w.grownBy w2 (some b):=by
 have J0:(Lit.int q 0).wf=true:=by cases q<;>decide
 obtain⟨c,hl,rP,hwc⟩:=h.lookup_int K ht he (hz w) jY
 have Zi:=fun(x:Int) (hx:(Lit.int q x).wf=true)=>h.update K ht hn jY (plainElem_int (H:=H) he hx)
 have h':=h;obtain⟨es,clock,hb,F,hs,hD⟩:=h';obtain⟨v0,st,es1,clock1,nW,-,Qs⟩:=entry_then_store K0 ht hz hb F jY;have rE:(setBlock w b (.map es1 clock1)).heap[b]?=some (.map es1 clock1):=heap_setBlock_same hb _
 have Zj:∀ x:Int,(Lit.int q x).wf=true->∃ w2,(Instr.entryStore t (.map (some b)) (goInt st) (.int q x)).run P (setBlock w b (.map es1 clock1)) = .ok () w2/\w2.ownsMap P k (plainElem P e) b (n+1) (D.put kl (.lit (.int q x)))/\w.grownBy w2 (some b):=fun x hx=>by
  obtain⟨es',clock',h1,h2⟩:=Qs (setBlock w b (.map es1 clock1)) (.int q x) rE;obtain⟨w2,h3,h4,h5⟩:=Zi x hx;rw[h2] at h3
  have e:setBlock w b (.map es' clock')=w2:=by injection h3
  refine⟨w2,?_,h4,h5⟩;rw[h1,<- e];unfold setBlock;simp
 rcases K.find w jY es.toList F.keys with ⟨h1,h2⟩ | ⟨j,e0,h1,h2,h3⟩
 ·have aU:(Instr.lookup t (.map (some b)) key false).run P w = .ok (.int q 0) w:=by
   simp[Instr.lookup,run_underlying ht,MapKept.run_getObj_map hb,K.check w _ jY,h1,hz,Result.andThen]
  have kN:(Instr.mapEntry t (.map (some b)) key).run P w = .ok (.tuple #[.int q 0,goInt clock]) (setBlock w b (.map (es.push ⟨key,.int q 0,clock⟩) (clock+1))):=by
   simp[Instr.mapEntry,run_underlying ht,MapKept.run_getObj_map hb,K.check w false jY,h1,hz,MapKept.run_setObj_map _ hb,Result.andThen,setBlock]
  have Ms:(Instr.mapUpdate t (.map (some b)) key (.int q 0)).run P w = .ok () (setBlock w b (.map (es.push ⟨key,.int q 0,clock⟩) (clock+1))):=by
   simp[Instr.mapUpdate,run_underlying ht,MapKept.run_getObj_map hb,K.check w false jY,h1,MapKept.run_setObj_map _ hb,Result.andThen,setBlock]
  have hc:c=0:=by
   rw[hl] at aU;injection aU with h3;injection h3
  subst hc;rw[kN] at nW;injection nW with e1 e2
  have e3:v0 = .int q 0:=by
   injection e1 with e1;have:=congrArg (fun a:Array Value=>a[0]?) e1;simpa using this.symm
  obtain⟨w',h3,h4,h5⟩:=Zi 0 J0;rw[Ms] at h3
  have e4:setBlock w b (.map (es.push ⟨key,.int q 0,clock⟩) (clock+1))=w':=by injection h3
  have Qt:setBlock w b (.map es1 clock1)=w':=by rw[<- e2,e4]
  obtain⟨c1,xS,Qu,-⟩:=h4.lookup_int K ht he (hz w') jY;have hD2:∃ l,D = .map l:=⟨_,hD⟩;obtain⟨l,hDl⟩:=hD2
  have Mc:c1=0:=by
   rw[hDl] at Qu;rw[atKey_put_same ⟨l,rfl⟩ (K.key jY)] at Qu;injection Qu with h6;injection h6 with _ h7;exact h7.symm
  subst Mc;refine⟨0,st,setBlock w b (.map es1 clock1),?_,hl,by rw[Qt];exact xS,rP,Zj⟩;rw[kN,e2];have:(Value.tuple #[.int q 0,goInt clock]) = .tuple #[v0,goInt st]:=e1;rw[this,e3]
 ·have hj:es[j]?=some e0:=by simpa using h2
  have aU:(Instr.lookup t (.map (some b)) key false).run P w = .ok e0.val w:=by
   simp[Instr.lookup,run_underlying ht,MapKept.run_getObj_map hb,K.check w _ jY,h1,Result.andThen]
  have wF:es.modify j (fun e=>{ e with key:=key })=es:=by
   apply Array.ext_getElem?;intro i;rw[Array.getElem?_modify];by_cases e:j=i
   ·subst e
    rw[if_pos rfl,hj];show some { e0 with key:=key }=some e0;rw[<- h3]
   ·rw[if_neg e]
  have kN:(Instr.mapEntry t (.map (some b)) key).run P w = .ok (.tuple #[e0.val,goInt e0.born]) (setBlock w b (.map es clock)):=by
   simp[Instr.mapEntry,run_underlying ht,MapKept.run_getObj_map hb,K.check w false jY,h1,hj,h3,K.stays w jY,wF,MapKept.run_setObj_map _ hb,Result.andThen,setBlock]
  have hv:e0.val = .int q c:=by
   rw[hl] at aU;injection aU with h3;exact h3.symm
  rw[kN] at nW;injection nW with e1 e2
  have e3:v0 = .int q c:=by
   injection e1 with e1;have:=congrArg (fun a:Array Value=>a[0]?) e1;rw[<- hv];simpa using this.symm
  have Qt:setBlock w b (.map es1 clock1)=w:=by rw[<- e2,Zm2 hb]
  refine⟨c,st,setBlock w b (.map es1 clock1),?_,hl,by rw[Qt];exact hl,rP,Zj⟩;rw[kN,e2];have:(Value.tuple #[e0.val,goInt e0.born]) = .tuple #[v0,goInt st]:=e1;rw[this,e3]
end
section
open Go.RowKit Go.Sort Go.Maps Go.WideElems Go.ChangeMaps Go.MapKept
theorem Z4b:(148:TypeId) < Tryz.prog.types.size:=of_decide_eq_true (by kernel_rfl)
theorem Z3k:Tryz.prog.keyTypeAt 2 148=true:=by kernel_rfl
theorem YP:WideMaps.KeyLaw Tryz.prog 148:=deep_law_laid TG (m:=2) (by omega) Z4b Z3k (by rw[Tryz.underlying148])
theorem pe:Keyed Tryz.prog 148:=Keyed.of_law YP
theorem Z2j:Tryz.prog.keyType 148=true:=by kernel_rfl
theorem YQ:Tryz.prog.cellsOf 148=2:=by kernel_rfl
def FG(m v:Int):Lit:=.string (keyBytes [.int .i64 m,.int .i64 v])
theorem FH{x:Int}(h0:-1000000<=x)(h1:x<=1000000):(Lit.int .i64 x).wf=true:=by
 have e1:IntKind.i64.min = -9223372036854775808:=by decide
 have e2:IntKind.i64.max=9223372036854775807:=by decide
 show(decide (IntKind.i64.min<=x)&&decide (x<=IntKind.i64.max))=true;rw[e1,e2,decide_eq_true (by omega),decide_eq_true (by omega)];rfl
theorem eu(m v:Int)(hm:-1000000<=m/\m<=1000000)(hv:-1000000<=v/\v<=1000000):keyOf Tryz.prog 148 (.agg #[.int .i64 m,.int .i64 v])=some (FG m v):=by
 obtain⟨n,hn⟩:=TI
 have hf:(Value.agg #[.int .i64 m,.int .i64 v]).formed Tryz.prog 148=true:=by
  unfold Value.formed;rw[Tryz.underlying148];simp[YQ]
 have h1:=FH hm.1 hm.2;have h2:=FH hv.1 hv.2
 have c3:Tryz.prog.cellsOf 3=1:=by kernel_rfl
 unfold keyOf;rw[Tryz.underlying148];simp only[Z2j,hf,Bool.and_self,if_true,hn]
 have hx:Tryz.prog.keyLits (n+2) 148 [.int .i64 m,.int .i64 v]=some [.int .i64 m,.int .i64 v]:=by
  unfold Program.keyLits;rw[Tryz.underlying148];simp[YQ,c3,Program.keyLits,Tryz.underlying3,h1,h2]
 show(Tryz.prog.keyLits (n+2) 148 ((#[.int .i64 m,.int .i64 v]:Array Value).toList)).map (fun ls=>Lit.string (keyBytes ls))=some (FG m v);rw[show(#[.int .i64 m,.int .i64 v]:Array Value).toList=[.int .i64 m,.int .i64 v] from rfl,hx];rfl
def uC(w:World)(b n:Nat)(cnt:Int->Int->Int):Prop:=∃ D:DataW Value,w.ownsMap Tryz.prog 148 (plainElem Tryz.prog 3) b n D/\∀ m v,(-1000000<=m/\m<=1000000)->(-1000000<=v/\v<=1000000)->D.atKey (FG m v) (.lit (.int .i64 0)) = .lit (.int .i64 (cnt m v))
theorem uC.lt{w:World}{b n:Nat}{cnt:Int->Int->Int}(h:uC w b n cnt):b<w.heap.size:=by
 obtain⟨D,h1,-⟩:=h;exact h1.lt
theorem uC.step{w w':World}{b n:Nat}{cnt:Int->Int->Int}(h:uC w b n cnt)(hb:Below w.heap.size w w'):uC w' b n cnt:=by
 obtain⟨D,⟨es,clock,h1,h2,h3,h4⟩,h5⟩:=h;exact⟨D,⟨es,clock,(hb.block b (lI.1 h1).1).trans h1,h2,h3,h4⟩,h5⟩
theorem uC.new(w:World):uC (w.alloc (.map #[] 0)) w.heap.size 0 (fun _ _=>0):=⟨.map [],World.ownsMap_made w Tryz.prog 148 _,fun m v _ _=>rfl⟩
theorem YR(w:World):(zeroValue 3).run Tryz.prog w = .ok (.int .i64 0) w:=Tryz.zeroValue3 w
theorem uC.look{w:World}{b n:Nat}{cnt:Int->Int->Int}(h:uC w b n cnt)(m v:Int)(hm:-1000000<=m/\m<=1000000)(hv:-1000000<=v/\v<=1000000) :
  (Instr.lookup 146 (.map (some b)) (.agg #[.int .i64 m,.int .i64 v]) false).run Tryz.prog w = .ok (.int .i64 (cnt m v)) w:=by
 obtain⟨D,h1,h2⟩:=h;obtain⟨c,hl,rP,-⟩:=h1.lookup_int pe Tryz.underlying146 Tryz.underlying3 (YR w) (eu m v hm hv);rw[h2 m v hm hv] at rP;have h4:cnt m v=c:=(Lit.int.inj (DataW.lit.inj rP)).2;rw[hl,h4]
theorem uC.incr{w:World}{b n:Nat}{cnt:Int->Int->Int}(h:uC w b n cnt)(hn:n<=1000000)(m v:Int)(hm:-1000000<=m/\m<=1000000)(hv:-1000000<=v/\v<=1000000)(hc:-1000000<=cnt m v+1/\cnt m v+1<=1000000) :
  ∃ (st:Nat) (w1 w2:World),(Instr.mapEntry 146 (.map (some b)) (.agg #[.int .i64 m,.int .i64 v])).run Tryz.prog w = .ok (.tuple #[.int .i64 (cnt m v),goInt st]) w1/\(Instr.lookup 146 (.map (some b)) (.agg #[.int .i64 m,.int .i64 v]) false).run Tryz.prog w = .ok (.int .i64 (cnt m v)) w /\
   (Instr.lookup 146 (.map (some b)) (.agg #[.int .i64 m,.int .i64 v]) false).run Tryz.prog w1 = .ok (.int .i64 (cnt m v)) w1/\(Instr.entryStore 146 (.map (some b)) (goInt st) (.int .i64 (cnt m v+1))).run Tryz.prog w1 = .ok () w2 /\
   uC w2 b (n+1) (fun m' v'=>cnt m' v'+(if m'=m/\v'=v then 1 else 0))/\w.grownBy w2 (some b):=by
 obtain⟨D,h1,h2⟩:=h;obtain⟨c,st,w1,r1,r2,r3,r4,r5⟩:=Zw9 YP pe Tryz.underlying146 Tryz.underlying3 YR h1 (by simp only[maxLen];omega) (eu m v hm hv);rw[h2 m v hm hv] at r4;have eK:c=cnt m v:=(Lit.int.inj (DataW.lit.inj r4)).2.symm;subst eK;obtain⟨w2,r6,r7,r8⟩:=r5 (cnt m v+1) (FH hc.1 hc.2);refine⟨st,w1,w2,r1,r2,r3,r6,⟨_,r7,fun m' v' gU KI=>?_⟩,r8⟩;by_cases e:m'=m/\v'=v
 ·obtain⟨rfl,rfl⟩:=e
  show _=DataW.lit (Lit.int .i64 (cnt m' v'+if m'=m'/\v'=v' then 1 else 0));rw[if_pos ⟨rfl,rfl⟩];obtain⟨es,clock,-,-,-,hD⟩:=h1;rw[atKey_put_same ⟨_,hD⟩ (pe.key (eu m' v' hm hv))]
 ·show _=DataW.lit (Lit.int .i64 (cnt m' v'+if m'=m/\v'=v then 1 else 0))
  rw[if_neg e,Int.add_zero]
  rw[atKey_put_other (fun h3=>e (by
   have h4:=eu m v hm hv;have h5:=eu m' v' gU KI;rw[h3] at h5;have h6:=pe.inj h4 h5;injection h6 with h6;have a0:=congrArg (fun a:Array Value=>a[0]?) h6;have a1:=congrArg (fun a:Array Value=>a[1]?) h6;simp at a0 a1
   exact⟨a0.symm,a1.symm⟩))]
  exact h2 m' v' gU KI
end
section
open Go.RowKit Go.Sort Go.Maps
def nI(c:Crw)(i:Nat):Int:=(c.us.getD i ⟨0,0,0,0⟩).w
def kT(c:Crw)(l:List Int)(n:Nat)(m v:Int):Nat:=(List.range n).countP (fun j=>l.getD j 0==m&&nI c j==v)
theorem FI(c:Crw)(l:List Int)(n:Nat)(m v:Int):((kT c l (n+1) m v:Nat):Int)=((kT c l n m v:Nat):Int)+(if m=l.getD n 0/\v=nI c n then 1 else 0):=by
 unfold kT;rw[List.range_succ,List.countP_append,List.countP_singleton];by_cases e:m=l.getD n 0/\v=nI c n
 ·obtain⟨rfl,rfl⟩:=e
  simp
 ·rw[if_neg e]
  have:(l.getD n 0==m&&nI c n==v)=false:=by
   rw[Bool.eq_false_iff];intro h;simp only[dB,beq_iff_eq] at h;exact e ⟨h.1.symm,h.2.symm⟩
  rw[this];simp
theorem Z0d(c:Crw)(l:List Int)(n:Nat)(m v:Int):kT c l n m v<=n:=by
 unfold kT;have:=List.countP_le_length (p:=fun j=>l.getD j 0==m&&nI c j==v) (l:=List.range n)
 rwa [List.length_range] at this
def rK(c:Crw)(l:List Int)(i:Nat):Bool:=cM (l.getD i 0) c.ms.length&&((aW c).getD i []).getD (l.getD i 0).toNat false&&decide (((kT c l (i+1) (l.getD i 0) (nI c i):Nat):Int)<=eI (c.ms.getD (l.getD i 0).toNat ⟨[],[],0⟩).t (nI c i).toNat)
def Lj(c:Crw)(l:List Int):Bool:=bG c&&decide (l.length=c.us.length)&&(List.range l.length).all (rK c l)
theorem Z4c(t:Array Value)(h:t.size=82):∃ f:Nat->Value,t=#[f 0,f 1,f 2,f 3,f 4,f 5,f 6,f 7,f 8,f 9,f 10,f 11,f 12,f 13,f 14,f 15,f 16,f 17,f 18,f 19,f 20,f 21,f 22,f 23,f 24,f 25,f 26,f 27,f 28,f 29,f 30,f 31,f 32,f 33,f 34,f 35,f 36,f 37,f 38,f 39,f 40,f 41,f 42,f 43,f 44,f 45,f 46,f 47,f 48,f 49,f 50,f 51,f 52,f 53,f 54,f 55,f 56,f 57,f 58,f 59,f 60,f 61,f 62,f 63,f 64,f 65,f 66,f 67,f 68,f 69,f 70,f 71,f 72,f 73,f 74,f 75,f 76,f 77,f 78,f 79,f 80,f 81]/\∀ d,t.getD d undef=f d:=by
 obtain⟨l⟩:=t;have hl:l.length=82:=h
 have e:l=(List.range 82).map (fun i=>l.getD i undef):=by
  apply List.ext_getElem
  ·simp[hl]
  ·intro i h1 h2
   simp[List.getD,h1]
 exact⟨fun i=>l.getD i undef,congrArg List.toArray e,fun d=>by simp⟩
def Z4d(MB X i j n0 c1 nm mc gm om nb mbc nt mtc:Nat)(mbo mto:Option Addr)(mr tk:Int)(ov:Bool):List Value:=[.map (some MB),.int .i64 (j:Nat),.int .i64 (n0:Nat),.agg #[.int .i64 (j:Nat),.int .i64 (n0:Nat)],.int .i64 (c1:Nat),.pointer (some ⟨X,1,none⟩),.slice (some ⟨gm,om,none⟩) nm mc,.int .i64 (j:Nat),.pointer (some ⟨gm,om+j*3,none⟩),.agg #[.slice mbo nb mbc,.slice mto nt mtc,.int .i64 mr],.int .i64 (n0:Nat),.int .i64 tk,.bool ov]
theorem Z0e(w:World)(c:Crw)(cs:List Value)(B:Nat)(l:List Int)(lo:Option Addr)(lc:Nat)(ha:ArgC w c cs B)(hl:aY aZ w lo l) :
  Calls Tryz.prog 52 #[.agg cs.toArray,.slice lo l.length lc] w fun e w'=>e = .returned (.bool (Lj c l))/\Below w.heap.size w w':=by
 have iT:=I (fun W (hW:Below w.heap.size w W)=>Lf W c cs (ha.below hW).crw B (ha.below hW).tab ha.ok);have iC:=ha.nu;have cU:=I (fun(h:bG c=true)=>qP h (by omega));have nM:=I (fun(h:bG c=true)=>tL h);have vD:=I ha;have lE:=ha.ok.nq;have jI:=ha.ok.nm;have bJ:Hid (Lj c l=(bG c&&decide (l.length=c.us.length)&&(List.range l.length).all (rK c l))):=I rfl
 have oD:Hid (∀ i,i<l.length->rK c l i=false->Lj c l=false):=I (fun i hi h=>by
  unfold Lj
  have:(List.range l.length).all (rK c l)=false:=by
   rw[List.all_eq_false];exact⟨i,List.mem_range.2 hi,by rw[h];decide⟩
  rw[this,Bool.and_false])
 have fQ:=I (fun W (hW:Below w.heap.size w W)=>hl.below hW);clear hl;generalize Lj c l=PA at *;generalize fX:l.length=nl at *;have qH:=I fX;clear fX;obtain⟨qo,qc,mo,mc,uo,uc,rfl,dL,cN,dN,-⟩:=ha.crw;have nA:=I (fun W (hW:Below w.heap.size w W)=>cN.below hW);have jJ:=I (fun W (hW:Below w.heap.size w W)=>dN.below hW);unfold Fm at iT;clear ha dL cN dN;generalize eW:c.qs.length=nq at *;generalize cY:c.ms.length=nm at *;generalize dH:c.us.length=nu at *;have wN:=I eW;have fF:=I cY;have dZ:=I dH;clear eW cY dH;generalize iM:bG c=vc at *;have lD:=I iM;clear iM;have X1:=hnw w 26 [.slice qo nq qc,.slice mo nm mc,.slice uo nu uc];have B1:=I (bwA w (.cells #[.slice qo nq qc,.slice mo nm mc,.slice uo nu uc] 26))
 go_enter Tryz.func52,Tryz.ntmps52
 go_upto_region 1 with(fail)
 generalize w.alloc (.cells #[.slice qo nq qc,.slice mo nm mc,.slice uo nu uc] 26)=w1 at *;obtain⟨c0,c1,c2⟩:=X1.o.c3;have cA:=I (iT.o w1 B1.o);clear iT
 go_wp2_with fail
 refine cA.o.mono ?_;intro e w2 hq;obtain⟨aN,b2⟩:=hq;have B2:=B1.tr b2;have X2:=X1.st b2;have mA:Hid (w.heap.size<w2.heap.size):=I X2.o.lt;clear b2 c0 c1 c2 B1 X1 cA
 cases vc with
 | false =>
  rw[if_neg (by decide)] at aN;subst aN;have bK:Hid (PA=false):=I (by rw[bJ.o];rfl);clear bJ oD
  go_wp2_with fail
  go_ret;exact⟨by rw[bK.o];rfl,B2.o⟩
 | true =>
  rw[if_pos rfl] at aN;obtain⟨A,rfl,hR,-⟩:=aN;have HR:=I hR;have cV:=I (cU.o rfl);clear hR cU;have c2:=X2.o.cell 2 _ rfl;by_cases Yx:nl=nu
  ·subst Yx
   have bK:Hid ((List.range nl).all (rK c l)=true->PA=true):=I (fun h=>by rw[bJ.o,h,decide_eq_true rfl];rfl);obtain⟨-,wh,-,-,Jz,iJ⟩:=nM.o (by first | rfl | trivial);have Qv:=I Jz;have pL:=I iJ;clear bJ nM Jz iJ;have qG:=@run_makeMap Tryz.prog
   go_wp2_with fail
   clear c2 qG;have bx:=bwA w2 (.map #[] 0);have M3:Hid (uC (w2.alloc (.map #[] 0)) w2.heap.size 0 (fun m v=>((kT c l 0 m v:Nat):Int))):=I (uC.new w2);have B3:=B2.tr bx;have yB:=I (HR.o.below bx);have X3:=X2.st bx;obtain⟨MB,hMB⟩:=exq (w2.heap.size);rw[hMB] at M3 ⊢;have rq:Hid (w.heap.size<MB):=I (by rw[<- hMB];exact mA.o);have oE:=I (fun W (hW:Below w2.heap.size w2 W)=>HR.o.below hW);rw[hMB] at oE;have zG:Hid (Below MB w2 (w2.alloc (.map #[] 0))):=I (by rw[<- hMB];exact bx);have KJ:=I (fun W (hW:Below MB w2 W)=>(show aC W w.heap.size 26 [.slice qo nq qc,.slice mo nm mc,.slice uo nl uc] from X2.o.step (by rw[hMB];exact hW)));have kP:=I (fun W (hW:Below MB w2 W)=>B2.o.trans (hW.mono (by rw[<- hMB];exact B2.o.size)));clear bx hMB HR X2 B2 mA yB X3 B3;generalize w2.alloc (.map #[] 0)=w3 at *;have KK:Hid (∀ j,j<0->rK c l j=true):=I (fun j hj=>absurd hj (jU j))
   go_loopw [29] (fun kv wr=>∃ (i:Nat),kv = .int .i64 i/\i<=nl/\Hid (∀ j,j<i->rK c l j=true)/\Hid (uC wr MB i (fun m v=>((kT c l i m v:Nat):Int)))/\Hid (Below MB w2 wr)) (fun k _=>(nl-intOf k).toNat)
   case atStart=>exact⟨0,rfl,by omega,KK,M3,zG⟩
   case round =>
    clear KK M3 zG;obtain⟨i,rfl,hi,HJ,M4,B4⟩:=hrel;have e2:=w1i i (by omega);by_cases aT:i<nl
    ·have kk:(i:Int)<nl:=by omega
     obtain⟨m,hm⟩:∃ m,l[i]?=some m:=⟨_,aL (by rw[qH.o];exact aT)⟩;obtain⟨gl,ol,fI,dT,vE⟩:=(fQ.o wr (kP.o wr B4.o)).at jN i m hm;have l0:=vE 0 _ rfl;rw[Nat.mul_one,Nat.add_zero] at l0;subst fI;have KL:Hid (l.getD i 0=m):=I (by rw[bR,hm];rfl);have nY:Hid (rK c l i=(cM m nm&&((aW c).getD i []).getD m.toNat false&&decide (((kT c l (i+1) m (nI c i):Nat):Int)<=eI (c.ms.getD m.toNat ⟨[],[],0⟩).t (nI c i).toNat))):=I (by unfold rK;rw[KL.o,fF.o]);have X4:=I (KJ.o wr B4.o);have c1:=X4.o.cell 1 _ rfl;have ew:IntKind.i64.wrap ((nm:Int)-1)=(nm:Int)-1:=fU _ (by omega);have gB:=I (vQ m 0 ((nm:Int)-1) wr);have eZ:=I (fun h=>oZ (u:=m) (n:=nm) h);have Ka:Hid (Calls Tryz.prog 83 #[.int .i64 m,.int .i64 0,.int .i64 ((nm:Int)-1)] wr fun e w'=>e = .returned (.bool (cM m nm))/\wr=w'):=gB;clear hm vE dT gB;generalize oB:cM m nm=ib at *;have jq:=I oB;clear oB;obtain⟨ru,fJ⟩:∃ y,(aW c)[i]?=some y:=⟨_,aL (by rw[cV.o.len,dZ.o];exact aT)⟩;have eX:Hid (ru.length=nm):=I (by rw[cV.o.row _ (bU fJ),fF.o]);have Mh:Hid ((aW c).getD i []=ru):=I (by rw[bR,fJ];rfl);obtain⟨qo',mo',uo',nT,co',qc',mc',uc',Bt,cc',hA,hRC,-⟩:=oE.o wr B4.o;have a4:=hA.cell 4 _ rfl;rw[cV.o.len,dZ.o] at a4;obtain⟨gc,oc,bo,bc,iE,mU,fS,iA⟩:=hRC.c.at i ru fJ;rw[iE] at a4;rw[eX.o] at fS;have mV:=I iA;clear hA hRC iE mU iA fJ
     cases ib with
     | false =>
      have tB:Hid (rK c l i=false):=I (by rw[nY.o];rfl);clear nY
      go_wp2_with fail
      refine Ka.o.mono ?_;rintro e w4 ⟨rfl,rfl⟩;clear Ka c1 l0 a4 fS
      go_wp2_with fail
      go_ret;exact⟨by rw[oD.o i aT tB.o];rfl,kP.o _ B4.o⟩
     | true =>
      obtain⟨j,Zk,hj⟩:=eZ.o (by first | rfl | trivial);subst Zk;obtain⟨gb,ob,dE,iR⟩:=mV.o.bool j (by rw[eX.o];exact hj);have qX:=I dE;subst dE
      have jj:(j:Int)<nm:=by omega
      obtain⟨bt,mW⟩:=exq (ru.getD j false);rw[mW] at iR;have Mt:=I mW;clear mW mV
      go_wp2_with fail
      refine Ka.o.mono ?_;rintro e w4 ⟨rfl,rfl⟩;clear Ka
      cases bt with
      | false =>
       have tB:Hid (rK c l i=false):=I (by rw[nY.o,Mh.o,Int.toNat_natCast,Mt.o];rfl);clear nY
       go_wp2_with fail
       go_ret;exact⟨by rw[oD.o i aT tB.o];rfl,kP.o _ B4.o⟩
      | true =>
       obtain⟨xu,xY⟩:∃ y,c.us[i]?=some y:=⟨_,aL (by rw[dZ.o];exact aT)⟩;have J1:=Le (pL.o xu (bU xY));obtain⟨n0,rB⟩:∃ n:Nat,xu.w=(n:Int):=⟨xu.w.toNat,by omega⟩
       have zH:Hid (nI c i=(n0:Int)):=I (by
        show(c.us.getD i ⟨0,0,0,0⟩).w=_
        rw[bR,xY];exact rB)
       have hn0b:n0<=15:=by omega
       obtain⟨gu,ou,eV,iZ,cF⟩:=(jJ.o wr (kP.o wr B4.o)).at mN i xu xY;have u0:=cF 1 _ rfl;rw[rB] at u0;have Mg:=I eV;have c2:=X4.o.cell 2 _ rfl;rw[eV] at c2;clear J1 rB cF iZ xY eV;have BD:=(aG wr.heap.size wr).drew;have M5:=I (M4.o.step BD);have B5:=I (B4.o.trans (BD.mono (by have:=M4.o.lt;omega)));have wj:=Z0d c l i (j:Int) (n0:Int);obtain⟨st,w6,w7,t1,t2,t3,t4,M7,mE⟩:=M5.o.incr (by omega) (j:Int) (n0:Int) (by omega) (by omega) (by omega);have Da:=I mE;have M7:=I M7;obtain⟨cn,uV⟩:∃ y:Int,((kT c l i (j:Int) (n0:Int):Nat):Int)=y:=⟨_,rfl⟩
       have sN:0<=cn/\cn<=1000:=by omega
       have lQ:=I uV;rw[uV] at t1 t2 t3 t4;unfold goInt at t1 t4;have e7:IntKind.i64.wrap (cn+1)=cn+1:=fU _ (by omega);clear uV mE wj BD
       have M7:Hid (uC w7 MB (i+1) (fun m v=>((kT c l (i+1) m v:Nat):Int))):=I (by
        have e:(fun m v=>((kT c l (i+1) m v:Nat):Int))=(fun m' v'=>((kT c l i m' v':Nat):Int)+(if m'=(j:Int)/\v'=(n0:Int) then 1 else 0)):=by
         funext m' v'
         rw[FI,KL.o,zH.o]
        rw[e];exact M7.o)
       have B7:=I (B5.o.grown Da.o (by have:=M5.o.lt;omega) (fun k hk=>by cases hk;exact aO _));have X7:=I (KJ.o w7 B7.o);obtain⟨m2,kN⟩:∃ y,c.ms[j]?=some y:=⟨_,aL (by rw[fF.o];exact hj)⟩;have uO:=FC (Qv.o m2 (bU kN));have tS:=(vD.o.ok.m m2 (bU kN));obtain⟨gm,om,tg,lC,gI,dX,aH⟩:=(nA.o w7 (kP.o w7 B7.o)).at j m2 kN;have wL:=I (fun W (hW:Below w7.heap.size w7 W)=>ni W m2 _ (dX.below hW) n0 (by omega) tS.2.2);obtain⟨mbo,mbc,mto,mtc,wl,-,-⟩:=dX;subst wl;have mB:=I (fun W (hW:Below w7.heap.size w7 W)=>aH.of_block (hW.block gm gI));have J2:=I (fun W (hW:Below w7.heap.size w7 W)=>X7.o.step hW);have xP:=I (fun W (hW:Below w7.heap.size w7 W)=>(M7.o.step hW).look (j:Int) (n0:Int) (by omega) (by omega));have dM:Hid (eI (c.ms.getD j ⟨[],[],0⟩).t (nI c i).toNat=eI m2.t n0):=I (by rw[zH.o,bR,kN];rfl)
       have zJ:Hid (rK c l i=decide (((kT c l (i+1) (j:Int) (n0:Int):Nat):Int)<=eI m2.t n0)):=I (by
        rw[nY.o,Mh.o,Int.toNat_natCast,Mt.o,dM.o,zH.o];rfl)
       have Gi:=I lC;clear lC
       go_upto_region 11 with(fail)
       go_region
       go_wp2_with fail
       clear t1 t2 t3 t4 e7 sN c2 u0 kN uO tS gI aH M5 B5 nY dM lQ Da X4 ew;generalize eI m2.t n0=tk at *;generalize kT c l (i+1) (j:Int) (n0:Int)=c1 at *;generalize m2.b.length=nb at *;generalize m2.t.length=nt at *;generalize m2.r=mr at *;have js:=I jj;obtain⟨ov,Ya⟩:∃ b,decide (tk<(c1:Int))=b:=⟨_,rfl⟩;have wn:=I Ya;clear Ya jj;refine oK (lF (Z4d MB (w.heap.size) i j n0 c1 nm mc gm om nb mbc nt mtc mbo mto mr tk ov)) (by kernel_rfl) (fun _ _ _ _ h _=>h) (jD (by kernel_rfl)) (oJ (by kernel_rfl)) (iV (by kernel_rfl)) ?hs ?he
       case hs =>
        intro i o hi listed a' w' H aU;have hb:=I H.below;obtain⟨t',df⟩:=a';obtain⟨f',rfl,hf⟩:=Z4c t' H.tsize;obtain rfl:df=[]:=H.defers;have eC:f' 2 = .pointer (some ⟨w.heap.size,0,none⟩):=H.sm 2 (by kernel_rfl);have cZ:f' 7 = .map (some MB):=H.sm 7 (by kernel_rfl);have eP:f' 9 = .int .i64 (j:Nat):=H.sm 9 (by kernel_rfl);have dO:f' 10 = .int .i64 (n0:Nat):=H.sm 10 (by kernel_rfl);have aA:=H.hL aU hf;clear aU H hf;rcases XJ i (lI.1 hi).1 with rfl | rfl | rfl | rfl | rfl | rfl | rfl | rfl | rfl | rfl | rfl | rfl | rfl<;>obtain rfl:=bF hi;rw[cZ]
        rotate_left
        rw[eP]
        rotate_left
        rw[dO]
        rotate_left
        rw[aA 1 69 rfl rfl,aA 2 70 rfl rfl]
        rotate_left
        rw[aA 0 68 rfl rfl,aA 3 71 rfl rfl];have tl:=xP.o w' hb.o
        rotate_left
        rw[eC]
        rotate_left
        rw[aA 5 73 rfl rfl];have J3:=(J2.o w' hb.o).cell 1 _ rfl;rw[Gi.o] at J3
        rotate_left
        rw[eP]
        rotate_left
        rw[aA 6 74 rfl rfl,aA 7 75 rfl rfl];have jj:=js.o
        rotate_left
        rw[aA 8 76 rfl rfl];have m0c:=mB.o w' hb.o 0 _ rfl;have m1c:=mB.o w' hb.o 1 _ rfl;have m2c:=mB.o w' hb.o 2 _ rfl;rw[Nat.add_zero] at m0c
        rotate_left
        rw[dO]
        rotate_left
        ·have oA:=aA 9 77 rfl rfl
         have fK:=aA 10 78 rfl rfl;clear aA;rw[oA,fK];clear oA fK eC cZ eP dO;refine aP rfl ?_
         go_wp2_with fail
         refine(wL.o w' hb.o).mono ?_;rintro e w4 ⟨rfl,b4⟩;have bC:=I b4;clear b4
         go_wp2_with fail
         exact aI ⟨_,rfl,bC.o,rfl⟩
        ·have fL:=aA 4 72 rfl rfl
         have eE:=aA 11 79 rfl rfl;clear aA;rw[fL,eE];clear fL eE eC cZ eP dO;refine aP rfl ?_
         go_wp2_with fail
         exact aI ⟨_,rfl,aG _ _,congrArg Value.bool wn.o⟩
        all_goals clear aA eC cZ eP dO
        all_goals (refine aP rfl ?_;go_wp2_with fail;exact aI ⟨_,rfl,aG _ _,rfl⟩)
       case he =>
        intro listed a' w4 H aD;have uY:=H.done 12 _ 80 rfl (aD 12 (by decide)) rfl;have aK:=I H.below;obtain⟨zf,hz,rfl⟩:=H.actz [68,69,70,71,72,73,74,75,76,77,78,79,80] (oL (by kernel_rfl));rw[hz] at uY;clear H aD hz;simp only[fcL,fnL,Act.put,sbT,scS,scZ];rw[show zf 80=_ from uY];clear uY
        cases ov with
        | true =>
         have tB:Hid (rK c l i=false):=I (by
          have:=of_decide_eq_true wn.o
          rw[zJ.o];exact decide_eq_false (by omega))
         have B8:=I (B7.o.trans (aK.o.mono (by have:=M7.o.lt;omega)))
         go_wp2_with fail
         go_ret;exact⟨by rw[oD.o i aT tB.o];rfl,kP.o _ B8.o⟩
        | false =>
         have tB:Hid (rK c l i=true):=I (by
          have:=of_decide_eq_false wn.o
          rw[zJ.o];exact decide_eq_true (by omega))
         have B8:=I (B7.o.trans (aK.o.mono (by have:=M7.o.lt;omega)));have M8:=I (M7.o.step aK.o);clear aK M7 B7
         go_wp2_with fail
         go_roundw
         case rel=>exact⟨i+1,by go_num,by omega,I (fun j' xG=>by
          rcases gQ j' i with h | h
          ·exact HJ.o j' h
          ·obtain rfl:j'=i:=by omega
           exact tB.o),M8,B8⟩
         case measure=>simp only[intOf];omega
    ·have kk:¬ (i:Int)<nl:=by omega
     obtain rfl:nl=i:=by omega
     have HT:=I (bK.o (by rw[List.all_eq_true];exact fun j hj=>HJ.o j (List.mem_range.1 hj)))
     go_wp2_with fail
     go_ret;exact⟨by rw[HT.o];rfl,kP.o _ B4.o⟩
  ·have bK:Hid (PA=false):=I (by rw[bJ.o,decide_eq_false Yx];rfl)
   have cT:¬ ((nl:Nat):Int)=nu:=by omega
   clear bJ oD
   go_wp2_with fail
   go_ret;exact⟨by rw[bK.o];rfl,B2.o⟩
end
section
open Go.RowKit Go.Sort Go.Maps
end
end Go.Proofs.YtbcgocpihobjnaaGreatDoor
