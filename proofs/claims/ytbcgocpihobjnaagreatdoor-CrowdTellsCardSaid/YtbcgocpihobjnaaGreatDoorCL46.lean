import Derived.Test.YtbcgocpihobjnaaGreatDoorCL44
import Derived.Test.YtbcgocpihobjnaaGreatDoorCL34
set_option linter.all false
set_option maxHeartbeats 32000000
set_option maxRecDepth 100000
namespace Go.Proofs.YtbcgocpihobjnaaGreatDoor
open Go.RowKit Go.Sort Go.Maps
theorem Tn(t:Array Value)(h:t.size=137):∃ f:Nat->Value,t=#[f 0,f 1,f 2,f 3,f 4,f 5,f 6,f 7,f 8,f 9,f 10,f 11,f 12,f 13,f 14,f 15,f 16,f 17,f 18,f 19,f 20,f 21,f 22,f 23,f 24,f 25,f 26,f 27,f 28,f 29,f 30,f 31,f 32,f 33,f 34,f 35,f 36,f 37,f 38,f 39,f 40,f 41,f 42,f 43,f 44,f 45,f 46,f 47,f 48,f 49,f 50,f 51,f 52,f 53,f 54,f 55,f 56,f 57,f 58,f 59,f 60,f 61,f 62,f 63,f 64,f 65,f 66,f 67,f 68,f 69,f 70,f 71,f 72,f 73,f 74,f 75,f 76,f 77,f 78,f 79,f 80,f 81,f 82,f 83,f 84,f 85,f 86,f 87,f 88,f 89,f 90,f 91,f 92,f 93,f 94,f 95,f 96,f 97,f 98,f 99,f 100,f 101,f 102,f 103,f 104,f 105,f 106,f 107,f 108,f 109,f 110,f 111,f 112,f 113,f 114,f 115,f 116,f 117,f 118,f 119,f 120,f 121,f 122,f 123,f 124,f 125,f 126,f 127,f 128,f 129,f 130,f 131,f 132,f 133,f 134,f 135,f 136]/\∀ d,t.getD d undef=f d:=by
 obtain⟨l⟩:=t;have hl:l.length=137:=h
 have e:l=(List.range 137).map (fun i=>l.getD i undef):=by
  apply List.ext_getElem
  ·simp[hl]
  ·intro i h1 h2
   simp[List.getD,h1]
 exact⟨fun i=>l.getD i undef,congrArg List.toArray e,fun d=>by simp⟩
theorem GG(i:Nat)(h:i<35):i=0\/i=1\/i=2\/i=3\/i=4\/i=5\/i=6\/i=7\/i=8\/i=9\/i=10\/i=11\/i=12\/i=13\/i=14\/i=15\/i=16\/i=17\/i=18\/i=19\/i=20\/i=21\/i=22\/i=23\/i=24\/i=25\/i=26\/i=27\/i=28\/i=29\/i=30\/i=31\/i=32\/i=33\/i=34:=by omega
def Z4y(CB gq oq gu ou ix j vf v0 n lc un uc:Nat)(uo:Option Addr)(q q1 Wf Wg:Int):List Value:=[.int .i64 (ix:Nat),.bool false,.bool false,undef,undef,undef,undef,undef,undef,undef,undef,undef,undef,undef,.bool false,.bool false,.pointer (some ⟨CB,2,none⟩),.slice (some ⟨gu,ou,none⟩) un uc,.slice (some ⟨gq,oq,none⟩) n lc,.int .i64 (ix:Nat),.pointer (some ⟨gq,oq+ix,none⟩),.int .i64 (vf:Nat),.pointer (some ⟨gu,ou+vf*4,none⟩),.pointer (some ⟨gu,ou+vf*4+1,none⟩),.int .i64 Wf,.pointer (some ⟨CB,2,none⟩),.slice (some ⟨gu,ou,none⟩) un uc,.slice (some ⟨gq,oq,none⟩) n lc,.pointer (some ⟨gq,oq,none⟩),.int .i64 (v0:Nat),.pointer (some ⟨gu,ou+v0*4,none⟩),.pointer (some ⟨gu,ou+v0*4+1,none⟩),.int .i64 Wg,.bool (Wf != Wg),.bool (Wf != Wg)]
def Z4z(CB gq oq gu ou ix j vf v0 n lc un uc:Nat)(uo:Option Addr)(q q1 Wf Wg:Int):List Value:=[.int .i64 (ix:Nat),.bool true,.bool true,.slice (some ⟨gq,oq,none⟩) n lc,.int .i64 (ix:Nat),.int .i64 (j:Nat),.int .i64 (j:Nat),.pointer (some ⟨gq,oq+j,none⟩),.int .i64 q1,.slice (some ⟨gq,oq,none⟩) n lc,.int .i64 (ix:Nat),.pointer (some ⟨gq,oq+ix,none⟩),.int .i64 q,.bool false,.bool false,.bool false,.pointer (some ⟨CB,2,none⟩),.slice (some ⟨gu,ou,none⟩) un uc,.slice (some ⟨gq,oq,none⟩) n lc,.int .i64 (ix:Nat),.pointer (some ⟨gq,oq+ix,none⟩),.int .i64 (vf:Nat),.pointer (some ⟨gu,ou+vf*4,none⟩),.pointer (some ⟨gu,ou+vf*4+1,none⟩),.int .i64 Wf,.pointer (some ⟨CB,2,none⟩),.slice (some ⟨gu,ou,none⟩) un uc,.slice (some ⟨gq,oq,none⟩) n lc,.pointer (some ⟨gq,oq,none⟩),.int .i64 (v0:Nat),.pointer (some ⟨gu,ou+v0*4,none⟩),.pointer (some ⟨gu,ou+v0*4+1,none⟩),.int .i64 Wg,.bool (Wf != Wg),.bool (Wf != Wg)]
def Z40(CB gq oq gu ou ix j vf v0 n lc un uc:Nat)(uo:Option Addr)(q q1 Wf Wg:Int):List Value:=[.int .i64 (ix:Nat),.bool true,.bool true,.slice (some ⟨gq,oq,none⟩) n lc,.int .i64 (ix:Nat),.int .i64 (j:Nat),.int .i64 (j:Nat),.pointer (some ⟨gq,oq+j,none⟩),.int .i64 q1,.slice (some ⟨gq,oq,none⟩) n lc,.int .i64 (ix:Nat),.pointer (some ⟨gq,oq+ix,none⟩),.int .i64 q,.bool true,.bool true,.bool true,undef,undef,undef,undef,undef,undef,undef,undef,undef,undef,undef,undef,undef,undef,undef,undef,undef,undef,.bool true]
def Z41(TB gq oq gc oc g2 p2 jx k vf n lc un cc mn bc:Nat)(cb:Bool):List Value:=[.bool false,.bool false,.pointer (some ⟨TB,3,none⟩),.slice (some ⟨gc,oc,none⟩) un cc,.slice (some ⟨gq,oq,none⟩) n lc,.int .i64 (jx:Nat),.pointer (some ⟨gq,oq+jx,none⟩),.int .i64 (vf:Nat),.pointer (some ⟨gc,oc+vf,none⟩),.slice (some ⟨g2,p2,none⟩) mn bc,.int .i64 (k:Nat),.pointer (some ⟨g2,p2+k,none⟩),.bool cb,.bool cb]
def Z42(TB gq oq gc oc g2 p2 jx k vf n lc un cc mn bc:Nat)(cb:Bool):List Value:=[.bool true,.bool true,undef,undef,undef,undef,undef,undef,undef,undef,undef,undef,undef,.bool true]
def Z43(CB gq oq gm om gu ou k v0 n lc mn mc un uc nb bc nt tc wd:Nat)(bo to':Option Addr)(mr tk R:Int):List Value:=[.int .i64 R,.pointer (some ⟨CB,1,none⟩),.slice (some ⟨gm,om,none⟩) mn mc,.int .i64 (k:Nat),.pointer (some ⟨gm,om+k*3,none⟩),.agg #[.slice bo nb bc,.slice to' nt tc,.int .i64 mr],.pointer (some ⟨CB,2,none⟩),.slice (some ⟨gu,ou,none⟩) un uc,.slice (some ⟨gq,oq,none⟩) n lc,.pointer (some ⟨gq,oq,none⟩),.int .i64 (v0:Nat),.pointer (some ⟨gu,ou+v0*4,none⟩),.pointer (some ⟨gu,ou+v0*4+1,none⟩),.int .i64 (wd:Nat),.int .i64 tk,.int .i64 (R+tk)]
theorem d5(c:Crw)(C:List (List Bool))(set:List Int)(h:∀ k,0<=eI (c.ms.getD k ⟨[],[],0⟩).t (pY c (set.getD 0 0)).toNat/\eI (c.ms.getD k ⟨[],[],0⟩).t (pY c (set.getD 0 0)).toNat<=4096):∀ k:Nat,0<=nH c C set k/\nH c C set k<=4096*(k:Int)
 | 0=>⟨Int.le_refl _,by show(0:Int)<=4096*((0:Nat):Int);omega⟩
 | k+1=>by
  have h1:=d5 c C set h k;have h2:=h k;show 0<=nH c C set k+(if eJ C set k=true then _ else 0)/\nH c C set k+(if eJ C set k=true then _ else 0)<=_;split<;>omega
theorem Zqy(w:World)(c:Crw)(cs:List Value)(u m:Int)(set:List Int)(so:Option Addr)(lc:Nat)(ha:ArgR w c cs)(hl:aY aZ w so set)(fX:set.length<=1000000) :
  Calls Tryz.prog 59 #[.agg cs.toArray,.int .i64 u,.int .i64 m,.slice so set.length lc] w fun e w'=>e = .returned (.bool (Hu c u m set))/\Below w.heap.size w w':=by
 have gV:=ha.nu;have qZ:=ha.ok.nm;have Dv:=I (fun W (hW:Below w.heap.size w W)=>GA W c cs u (ha.below hW));have cU:=I (fun(h:bG c=true)=>qP h (by omega))
 have pI:Hid (∀ W,Below w.heap.size w W->bG c=true->Calls Tryz.prog 112 #[.agg cs.toArray] W fun e w'=>(∃ (q2:Option Addr) (d1:Nat) (q3:Option Addr) (d2:Nat) (q4:Option Addr) (d3:Nat) (co:Option Addr) (cc:Nat),e = .returned (.agg #[.slice q2 c.qs.length d1,.slice q3 c.ms.length d2,.slice q4 c.us.length d3,.slice co c.us.length cc])/\lY w' (aW c) co)/\Below W.heap.size W w'):=I (fun W hW hv=>by
  refine(fl W c cs (ha.below hW) hv).mono ?_;rintro e w' ⟨⟨ts,rfl,q2,d1,q3,d2,q4,d3,co,cc,rfl,h1,h2,h3,h4⟩,hb⟩;rw[(cU.o hv).len]
  exact⟨⟨q2,d1,q3,d2,q4,d3,co,cc,rfl,h4⟩,hb⟩)
 have jH:Hid (∀ (q2:Option Addr) (d1:Nat) (q3:Option Addr) (d2:Nat) (q4:Option Addr) (d3:Nat) (co:Option Addr) (cc:Nat) (C':List (List Bool)) (u k:Nat) (W:World),lY W C' co->ReckOk c C'->u<c.us.length->k<c.ms.length->Calls Tryz.prog 115 #[.agg #[.slice q2 c.qs.length d1,.slice q3 c.ms.length d2,.slice q4 c.us.length d3,.slice co c.us.length cc],.int .i64 (u:Nat),.int .i64 (k:Nat)] W fun e w'=>(∃ co' cc',e = .returned (.agg #[.slice q2 c.qs.length d1,.slice q3 c.ms.length d2,.slice q4 c.us.length d3,.slice co' c.us.length cc'])/\lY w' (bV c C' u k) co')/\Below W.heap.size W w'):=I (fun q2 d1 q3 d2 q4 d3 co cc C' u k W hr h2 hu hk=>by
  have h:=qb W c C' q2 q3 q4 co d1 d2 d3 cc (fun _=>False) (fun g e=>e.elim) (hr.rowsD (fun g _ e=>e)) h2.row (by rw[h2.len];omega) h2.nm u k (by rw[h2.len];exact hu) hk;rw[h2.len] at h;refine h.mono ?_;rintro e w' ⟨⟨co',cc',rfl,hr⟩,hb⟩
  exact⟨⟨co',cc',rfl,hr.rowsB⟩,hb⟩)
 have sV:Hid (∀ W C' co v,lY W C' co->ReckOk c C'->v<c.us.length->∃ gc oc bo bc,co=some ⟨gc,oc,none⟩/\gc<W.heap.size/\W.cell? ⟨gc,oc+v,none⟩=some (.slice bo c.ms.length bc)/\∀ k,k<c.ms.length->∃ g2 o2,bo=some ⟨g2,o2,none⟩/\g2<W.heap.size/\W.cell? ⟨g2,o2+k,none⟩=some (.bool ((C'.getD v []).getD k false))):=I (fun W C' co v hr h2 hu=>by
  obtain⟨ru,fJ⟩:∃ y,C'[v]?=some y:=⟨_,aL (by rw[h2.len];exact hu)⟩;have gC:=h2.row ru (bU fJ);obtain⟨gc,oc,bo,bc,iE,mU,fS,iA⟩:=hr.at v ru fJ;rw[gC] at fS;refine⟨gc,oc,bo,bc,iE,mU,fS,fun k hk=>?_⟩
  have sI:k<ru.length:=by rw[gC];exact hk
  obtain⟨g2,o2,dE,qF,eK⟩:=iA.at Su k ru[k] (aL sI);have y1:=eK 0 _ rfl;rw[Nat.mul_one,Nat.add_zero] at y1;refine⟨g2,o2,dE,qF,?_⟩;rw[y1,bR (l:=C'),fJ];show _=some (Value.bool (ru.getD k false))
  rw[bR,aL sI];rfl)
 have Dw:Hid ((bG c&&cM u c.us.length)=true->∃ v:Nat,u=(v:Int)/\v<c.us.length/\bG c=true):=I (fun h=>by
  rw[dB] at h;obtain⟨v,h1,h2⟩:=oZ h.2
  exact⟨v,h1,h2,h.1⟩)
 have wU:Hid (cM m c.ms.length=true->∃ k:Nat,m=(k:Int)/\k<c.ms.length):=I oZ;have Vl:Hid (∀ q,cM q c.us.length=true->∃ v:Nat,q=(v:Int)/\v<c.us.length):=I (fun q=>oZ);have Sb:=I (fun W=>yQ m 0 ((c.ms.length:Int)-1) W);have Sc:Hid (inB m 0 ((c.ms.length:Int)-1)=cM m c.ms.length):=I rfl;have eZ:=I (fun q W=>yQ q 0 ((c.us.length:Int)-1) W);have mZ:Hid (∀ q,inB q 0 ((c.us.length:Int)-1)=cM q c.us.length):=I (fun q=>rfl);have vG:Hid (IntKind.i64.wrap ((c.us.length:Int)-1)=(c.us.length:Int)-1):=I (fU _ (by omega));have Nk:Hid (Hu c u m set=(bG c&&cM u c.us.length&&cM m c.ms.length&&decide (0<set.length)&&(List.range set.length).all (jF c set)&&decide (nH c (bV c (aW c) u.toNat m.toNat) set c.ms.length<(set.length:Int)))):=I rfl;have zI:Hid (∀ i,jF c set i=(cM (set.getD i 0) c.us.length&&(decide (i=0)||decide (set.getD (i-1) 0<set.getD i 0))&&decide (pY c (set.getD i 0)=pY c (set.getD 0 0)))):=I (fun i=>rfl)
 have gB:Hid (∀ (v:Nat) x,c.us[v]?=some x->pY c (v:Int)=x.w):=I (fun v x hx=>by
  unfold pY
  rw[Int.toNat_natCast,bR,hx];rfl)
 have Gl:=I (fun(hv:bG c=true) j m (h:c.ms[j]?=some m) k=>qd (cU.o hv) h k)
 have Qd:Hid (∀ C,bG c=true->∀ k:Nat,0<=nH c C set k/\nH c C set k<=4096*(k:Int)):=I (fun C hv k=>d5 c C set (fun k=>by
  by_cases hk:k<c.ms.length
  ·have h:=qd (cU.o hv) (aL hk) (pY c (set.getD 0 0)).toNat
   rw[bR,aL hk];show 0<=eI (c.ms[k]).t _/\eI (c.ms[k]).t _<=4096;omega
  ·rw[bR,List.getElem?_eq_none (by omega)]
   show 0<=eI [] _/\eI [] _<=4096
   have e:∀ x,eI [] x=0:=fun x=>by unfold eI;simp
   rw[e];omega) k)
 have tT:Hid (∀ C k,nH c C set (k+1)=nH c C set k+(if eJ C set k=true then eI (c.ms.getD k ⟨[],[],0⟩).t (pY c (set.getD 0 0)).toNat else 0)):=I (fun C k=>rfl);have Jv:Hid (∀ C i x k,set[i]?=some x->eJ C (set.take (i+1)) k=(eJ C (set.take i) k||(C.getD x.toNat []).getD k false)):=I (fun C i x k h=>YM h k);have zL:=I (fun(hv:bG c=true) x (hx:x∈c.us)=>(cU.o hv).win x hx);have fQ:=I (fun W (hW:Below w.heap.size w W)=>hl.below hW);obtain⟨qo,qc,mo,mc,uo,uc,rfl,-,cN,dN,-⟩:=ha.crw;have nA:=I (fun W (hW:Below w.heap.size w W)=>cN.below hW);have jJ:=I (fun W (hW:Below w.heap.size w W)=>dN.below hW);clear ha hl cN dN;generalize Hu c u m set=cX at *;obtain⟨n,hn⟩:=exq (set.length);rw[hn] at fX Nk ⊢;have rD:=I hn;clear hn;obtain⟨ib,oB⟩:=exq ((bG c&&cM u c.us.length));rw[oB] at Dv Dw Nk;obtain⟨im,Nj⟩:=exq (cM m c.ms.length);rw[Nj] at wU Sc Nk;rw[Sc.o] at Sb;clear oB Nj Sc;have X1:=hnw w 26 [.slice qo c.qs.length qc,.slice mo c.ms.length mc,.slice uo c.us.length uc];have B1:=I (bwA w (.cells #[.slice qo c.qs.length qc,.slice mo c.ms.length mc,.slice uo c.us.length uc] 26));generalize c.qs.length=qn at *;generalize lG:c.ms.length=mn at *;generalize jQ:c.us.length=un at *;have fF:=I lG;have dZ:=I jQ;clear lG jQ;have e1:IntKind.i64.wrap ((mn:Int)-1)=(mn:Int)-1:=fU _ (by omega)
 go_enter Tryz.func59,Tryz.ntmps59
 go_upto_region 1 with(fail)
 generalize w.alloc (.cells #[.slice qo qn qc,.slice mo mn mc,.slice uo un uc] 26)=w1 at *
 go_wp2_with (refine wpList_load_row rfl 26 (.tmp 4) rfl (w.heap.size) ?x1 26 #[.slice qo qn qc,.slice mo mn mc,.slice uo un uc] (0,0) _ X1.o Tryz.underlying26 rfl (kU _ _ _) ?_;(case x1=>rfl))
 refine(Dv.o w1 B1.o).mono ?_;rintro e w2 ⟨rfl,b2⟩;have X2:=X1.st b2;have B2:=B1.tr b2;clear b2 X1 B1 Dv;have c1:=X2.o.cell 1 _ rfl
 cases ib with
 | false =>
  have HE:Hid (cX=false):=I (by rw[Nk.o];rfl)
  go_wp2_with fail
  go_ret;exact⟨aF HE.o.symm,B2.o⟩
 | true =>
 obtain⟨uv,rfl,kD,hv⟩:=Dw.o rfl;clear Dw
 go_wp2_with fail
 refine(Sb.o w2).mono ?_;rintro e h_ ⟨rfl,rfl⟩;clear Sb c1 e1
 cases im with
 | false =>
  have HE:Hid (cX=false):=I (by rw[Nk.o];rfl)
  go_wp2_with fail
  go_ret;exact⟨aF HE.o.symm,B2.o⟩
 | true =>
 obtain⟨mk,rfl,iQ⟩:=wU.o rfl;clear wU;by_cases rB:n=0
 ·have q0:(((n:Nat):Int)==0)=true:=by simpa using rB
  have HE:Hid (cX=false):=I (by rw[Nk.o,rB];rfl)
  go_wp2_with fail
  go_ret;exact⟨aF HE.o.symm,B2.o⟩
 have q0:(((n:Nat):Int)==0)=false:=by simpa using rB
 have qp:(0:Int)<(n:Nat):=by omega
 have Us:=I qp
 have qI:Hid (cX=((List.range n).all (jF c set)&&decide (nH c (bV c (aW c) uv mk) set mn<(n:Int)))):=I (by
  rw[Nk.o,decide_eq_true (show 0<n by omega),Int.toNat_natCast,Int.toNat_natCast];rfl)
 clear Nk
 go_wp2_with fail
 clear q0
 go_loopw [9] (fun iv wr=>∃ (i:Nat),iv = .int .i64 i/\i<=n/\Hid (∀ y∈(List.range n).take i,jF c set y=true)/\Hid (Below w.heap.size w wr)/\Hid (aC wr w.heap.size 26 [.slice qo qn qc,.slice mo mn mc,.slice uo un uc])) (fun i _=>(n-intOf i).toNat)
 case atStart=>exact⟨0,rfl,by omega,I (by simp),B2,X2⟩
 case round =>
  clear B2 X2;obtain⟨ix,rfl,hi,HA,BR,XR⟩:=hrel;have e2:=w1i ix (by omega);by_cases aT:ix<n
  ·have ii:(ix:Int)<n:=by omega
   have mH:=I ii;obtain⟨q,hq⟩:∃ q,set[ix]?=some q:=⟨_,aL (by rw[rD.o];exact aT)⟩;have OV:=I hq;have Hb:Hid (set.getD ix 0=q):=I (by rw[bR,hq];rfl);have rU:Hid ((List.range n)[ix]?=some ix):=I (List.getElem?_range aT);obtain⟨gq,oq,fI,pP,eK⟩:=(fQ.o wr BR.o).at jN ix q hq;have y0:=eK 0 _ rfl;rw[Nat.mul_one,Nat.add_zero] at y0;have kQ:=I (fun W (hW:Below wr.heap.size wr W)=>(hW.cell (p:=⟨gq,oq+ix,none⟩) pP).trans y0);have bZ:=I (fun W (hW:Below wr.heap.size wr W)=>XR.o.step hW);have Km:=I (fun W=>eZ.o q W);rw[mZ.o] at Km;obtain⟨bb,dJ⟩:=exq (cM q un);rw[dJ] at Km;have Hc:=I dJ;have Gd:=I fI;clear dJ hq eK y0 pP;subst fI
   go_upto_region 6 with(fail)
   refine oK (lF (GE w.heap.size 2 gq oq ix n lc un uc uo q bb)) (by kernel_rfl) (fun _ _ _ _ h _=>h) (jD (by kernel_rfl)) (oJ (by kernel_rfl)) (iV (by kernel_rfl)) ?hs ?he
   case hs =>
    intro i o hi listed a' w' H aU;have hb:=I H.below;obtain⟨t',df⟩:=a';obtain⟨f',rfl,hf⟩:=Tn t' H.tsize;obtain rfl:df=[]:=H.defers;have bB:f' 3 = .slice (some ⟨gq,oq,none⟩) n lc:=H.sm 3 (by kernel_rfl);have bY:f' 4 = .pointer (some ⟨w.heap.size,0,none⟩):=H.sm 4 (by kernel_rfl);have eP:f' 9 = .int .i64 (ix:Nat):=H.sm 9 (by kernel_rfl);have aA:=H.hL aU hf;clear aU H hf;rcases en i (lI.1 hi).1 with rfl | rfl | rfl | rfl | rfl | rfl | rfl | rfl | rfl | rfl<;>obtain rfl:=bF hi;rw[bB]
    rotate_left
    rw[eP]
    rotate_left
    rw[aA 0 39 rfl rfl,aA 1 40 rfl rfl];have ii:=mH.o
    rotate_left
    rw[aA 2 41 rfl rfl];have p0:=kQ.o w' hb.o
    rotate_left
    rw[bY]
    rotate_left
    rw[aA 4 43 rfl rfl];have c0:=(bZ.o w' hb.o).cell 2 _ rfl
    rotate_left
    rw[aA 5 44 rfl rfl]
    rotate_left
    rw[aA 6 45 rfl rfl];have e1:=vG.o
    rotate_left
    ·have dC:=aA 3 42 rfl rfl
     have jA:=aA 7 46 rfl rfl;clear aA;rw[dC,jA];clear dC jA bB bY eP;refine aP rfl ?_
     go_wp2_with fail
     refine(Km.o w').mono ?_;rintro e w4 ⟨rfl,rfl⟩
     go_wp2_with fail
     exact aI ⟨_,rfl,aG _ _,rfl⟩
    rw[aA 8 47 rfl rfl]
    rotate_left
    all_goals clear aA bB bY eP
    all_goals (refine aP rfl ?_;go_wp2_with fail;exact aI ⟨_,rfl,aG _ _,rfl⟩)
   case he =>
    intro listed a' w4 H aD;have pJ:=H.done 9 _ 48 rfl (aD 9 (by decide)) rfl;have aK:=I H.below;obtain⟨zf,hz,rfl⟩:=H.actz [39,40,41,42,43,44,45,46,47,48] (oL (by kernel_rfl));rw[hz] at pJ;clear H aD hz;simp only[fcL,fnL,Act.put,sbT,scS,scZ];rw[show zf 48=_ from pJ];clear pJ;have B7:=BR.tr aK.o;have X7:=I (bZ.o _ aK.o);clear aK BR XR kQ bZ Km
    cases bb with
    | false =>
     have HE:Hid (cX=false):=I (by rw[qI.o,xD rU.o (f:=jF c set) (by rw[zI.o,Hb.o,Hc.o];rfl)];rfl)
     go_wp2_with fail
     go_ret;exact⟨aF HE.o.symm,B7.o⟩
    | true =>
     obtain⟨v,nU,iJ⟩:=Vl.o q Hc.o;obtain⟨Hd,dL⟩:∃ q,set[0]?=some q:=⟨_,aL (by rw[rD.o];omega)⟩;have Dx:Hid (set.getD 0 0=Hd):=I (by rw[bR,dL];rfl)
     have BE:∃ v0:Nat,Hd=(v0:Int)/\v0<un:=by
      by_cases e:ix=0
      ·subst e
       have h:q=Hd:=by have h1:=OV.o;rw[dL] at h1;exact(bF h1).symm
       exact⟨v,by rw[<- h];exact nU,iJ⟩
      ·have h:=HA.o 0 (pV.2 ⟨0,by rw[List.getElem?_take_of_lt (by omega),List.getElem?_range (by omega)]⟩)
       rw[zI.o,Dx.o,dB,dB] at h;exact Vl.o Hd h.1.1
     obtain⟨v0,yG,hv0u⟩:=BE;obtain⟨x,hx⟩:∃ x,c.us[v]?=some x:=⟨_,aL (by rw[dZ.o];exact iJ)⟩;obtain⟨x0,mG⟩:∃ x,c.us[v0]?=some x:=⟨_,aL (by rw[dZ.o];exact hv0u)⟩;have Mi:Hid (pY c q=x.w):=I (by rw[nU];exact gB.o v x hx);have Sd:Hid (pY c Hd=x0.w):=I (by rw[yG];exact gB.o v0 x0 mG);obtain⟨gu,ou,eV,iZ,cF⟩:=(jJ.o w4 B7.o).at mN v x hx;obtain⟨OW,OX,ce,cg,Ke⟩:=(jJ.o w4 B7.o).at mN v0 x0 mG;have wG:=I (fun W (hW:Below w4.heap.size w4 W)=>(hW.cell (p:=⟨gu,ou+v*4+1,none⟩) iZ).trans (cF 1 _ rfl));have wK:=I (fun W (hW:Below w4.heap.size w4 W)=>(hW.cell (p:=⟨OW,OX+v0*4+1,none⟩) cg).trans (Ke 1 _ rfl));obtain⟨W,hW0⟩:=exq (x.w);obtain⟨W0,hW00⟩:=exq (x0.w);rw[hW0] at Mi;rw[hW00] at Sd;have wG:Hid (∀ W',Below w4.heap.size w4 W'->W'.cell? ⟨gu,ou+v*4+1,none⟩=some (.int .i64 W)):=I (fun W' h=>by rw[<- hW0];exact wG.o W' h);have wK:Hid (∀ W',Below w4.heap.size w4 W'->W'.cell? ⟨OW,OX+v0*4+1,none⟩=some (.int .i64 W0)):=I (fun W' h=>by rw[<- hW00];exact wK.o W' h);rw[eV] at ce;cases ce;have dT:=fQ.o w4 B7.o;obtain⟨g3,o3,xS,uX,qE⟩:=dT.at jN ix q OV.o;cases xS;obtain⟨g5,o5,cd,ci,Ru⟩:=dT.at jN 0 Hd dL;cases cd;have y0:=qE 0 _ rfl;rw[Nat.mul_one,Nat.add_zero] at y0;have y5:=Ru 0 _ rfl;simp only[Nat.zero_mul,Nat.add_zero,yG] at y5;have kQ:=I (fun W (hW:Below w4.heap.size w4 W)=>(hW.cell (p:=⟨gq,oq+ix,none⟩) uX).trans y0);rw[nU] at y0;have Ca:=I (fun W (hW:Below w4.heap.size w4 W)=>(hW.cell (p:=⟨gq,oq+ix,none⟩) uX).trans y0);have Tz:=I nU;clear nU;have Nl:=I (fun W (hW:Below w4.heap.size w4 W)=>(hW.cell (p:=⟨gq,oq,none⟩) ci).trans y5);have bZ:=I (fun W (hW:Below w4.heap.size w4 W)=>X7.o.step hW);have uR:Hid ((v:Int)<un):=I (by omega);have Uw:Hid ((v0:Int)<un):=I (by omega);have Mg:=I eV;clear qE Ru y0 y5 uX ci cF Ke iZ cg hx mG hW0 hW00
     have BF:Hid (∀ j,j<n->∃ p,set[j]?=some p/\set.getD j 0=p/\∀ W,Below w4.heap.size w4 W->W.cell? ⟨gq,oq+j,none⟩=some (.int .i64 p)):=I (fun j hj=>by
      obtain⟨p,hp⟩:∃ p,set[j]?=some p:=⟨_,aL (by rw[rD.o];exact hj)⟩;obtain⟨g6,o6,o_,p_,q_⟩:=dT.at jN j p hp;cases o_;have y6:=q_ 0 _ rfl;rw[Nat.mul_one,Nat.add_zero] at y6
      exact⟨p,hp,by rw[bR,hp];rfl,fun W hW=>(hW.cell (p:=⟨gq,oq+j,none⟩) p_).trans y6⟩)
     clear dT;subst eV
     go_upto_region 8 with(fail)
     by_cases wA:ix=0
     ·have gP:Hid (¬ (0:Int)<(ix:Nat)):=I (by omega)
      have cV:Hid (jF c set ix=decide (W=W0)):=I (by rw[zI.o,Hb.o,Dx.o,Hc.o,Mi.o,Sd.o,decide_eq_true wA];rfl);have HI0:=I wA;clear wA;clear BF;obtain⟨j,q1,-⟩:∃ (j:Nat) (q1:Int),True:=⟨0,0,trivial⟩;refine oK (lF (Z4y w.heap.size gq oq gu ou ix j v v0 n lc un uc (some ⟨gu,ou,none⟩) q q1 W W0)) (by kernel_rfl) (fun _ _ _ _ h _=>h) (jD (by kernel_rfl)) (oJ (by kernel_rfl)) (iV (by kernel_rfl)) ?hs ?he
      case hs =>
       intro i o hi listed a' w' H aU;have hb:=I H.below;obtain⟨t',df⟩:=a';obtain⟨f',rfl,hf⟩:=Tn t' H.tsize;obtain rfl:df=[]:=H.defers;have bB:f' 3 = .slice (some ⟨gq,oq,none⟩) n lc:=H.sm 3 (by kernel_rfl);have bY:f' 4 = .pointer (some ⟨w.heap.size,0,none⟩):=H.sm 4 (by kernel_rfl);have eP:f' 9 = .int .i64 (ix:Nat):=H.sm 9 (by kernel_rfl);have aA:=H.hL aU hf;clear aU H hf;rcases GG i (lI.1 hi).1 with rfl | rfl | rfl | rfl | rfl | rfl | rfl | rfl | rfl | rfl | rfl | rfl | rfl | rfl | rfl | rfl | rfl | rfl | rfl | rfl | rfl | rfl | rfl | rfl | rfl | rfl | rfl | rfl | rfl | rfl | rfl | rfl | rfl | rfl | rfl<;>obtain rfl:=bF hi;rw[eP]
       rotate_left
       ·have fT:=aA 0 49 rfl rfl
        clear aA;rw[fT];clear fT bB bY eP;have hp:=gP.o;refine aP rfl ?_
        go_wp2_with fail
        exact aI ⟨_,rfl,aG _ _,by first | rfl | exact congrArg Value.bool (by first | exact decide_eq_true (by omega) | exact decide_eq_false (by omega))⟩
       rw[aA 1 50 rfl rfl]
       rotate_left
       rw[bB,aA 2 51 rfl rfl]
       rotate_left
       rw[eP,aA 2 51 rfl rfl]
       rotate_left
       rw[aA 2 51 rfl rfl,aA 4 53 rfl rfl]
       rotate_left
       rw[aA 2 51 rfl rfl,aA 5 54 rfl rfl]
       rotate_left
       rw[aA 2 51 rfl rfl,aA 3 52 rfl rfl,aA 6 55 rfl rfl]
       rotate_left
       rw[aA 2 51 rfl rfl,aA 7 56 rfl rfl]
       rotate_left
       rw[bB,aA 2 51 rfl rfl]
       rotate_left
       rw[eP,aA 2 51 rfl rfl]
       rotate_left
       rw[aA 2 51 rfl rfl,aA 9 58 rfl rfl,aA 10 59 rfl rfl]
       rotate_left
       rw[aA 2 51 rfl rfl,aA 11 60 rfl rfl]
       rotate_left
       ·have kF:=aA 2 51 rfl rfl
        have fE:=aA 8 57 rfl rfl;have cW:=aA 12 61 rfl rfl;clear aA;rw[kF,fE,cW];clear kF fE cW bB bY eP;refine aP rfl ?_
        go_wp2_with fail
        exact aI ⟨_,rfl,aG _ _,by first | rfl | exact congrArg Value.bool (by first | exact decide_eq_true (by omega) | exact decide_eq_false (by omega))⟩
       rw[aA 2 51 rfl rfl,aA 13 62 rfl rfl]
       rotate_left
       rw[aA 14 63 rfl rfl]
       rotate_left
       rw[bY,aA 15 64 rfl rfl]
       rotate_left
       rw[aA 15 64 rfl rfl,aA 16 65 rfl rfl];have c2:=(bZ.o w' hb.o).cell 2 _ rfl
       rotate_left
       rw[bB,aA 15 64 rfl rfl]
       rotate_left
       rw[eP,aA 15 64 rfl rfl]
       rotate_left
       rw[aA 15 64 rfl rfl,aA 18 67 rfl rfl,aA 19 68 rfl rfl];have ii:=mH.o
       rotate_left
       rw[aA 15 64 rfl rfl,aA 20 69 rfl rfl];have p0:=Ca.o w' hb.o
       rotate_left
       rw[aA 15 64 rfl rfl,aA 17 66 rfl rfl,aA 21 70 rfl rfl];have iv:=uR.o
       rotate_left
       rw[aA 15 64 rfl rfl,aA 22 71 rfl rfl]
       rotate_left
       rw[aA 15 64 rfl rfl,aA 23 72 rfl rfl];have u1:=wG.o w' hb.o
       rotate_left
       rw[bY,aA 15 64 rfl rfl]
       rotate_left
       rw[aA 15 64 rfl rfl,aA 25 74 rfl rfl];have c2:=(bZ.o w' hb.o).cell 2 _ rfl
       rotate_left
       rw[bB,aA 15 64 rfl rfl]
       rotate_left
       rw[aA 15 64 rfl rfl,aA 27 76 rfl rfl];have rB:=Us.o
       rotate_left
       rw[aA 15 64 rfl rfl,aA 28 77 rfl rfl];have p0:=Nl.o w' hb.o
       rotate_left
       rw[aA 15 64 rfl rfl,aA 26 75 rfl rfl,aA 29 78 rfl rfl];have iv:=Uw.o
       rotate_left
       rw[aA 15 64 rfl rfl,aA 30 79 rfl rfl]
       rotate_left
       rw[aA 15 64 rfl rfl,aA 31 80 rfl rfl];have u1:=wK.o w' hb.o
       rotate_left
       rw[aA 15 64 rfl rfl,aA 24 73 rfl rfl,aA 32 81 rfl rfl]
       rotate_left
       rw[aA 15 64 rfl rfl,aA 33 82 rfl rfl]
       rotate_left
       all_goals clear aA bB bY eP
       all_goals (refine aP rfl ?_;go_wp2_with fail;exact aI ⟨_,rfl,aG _ _,rfl⟩)
      case he =>
       intro listed a' w5 H aD;have oG:=H.done 34 _ 83 rfl (aD 34 (by decide)) rfl;have aK:=I H.below;obtain⟨zf,hz,rfl⟩:=H.actz [49,50,51,52,53,54,55,56,57,58,59,60,61,62,63,64,65,66,67,68,69,70,71,72,73,74,75,76,77,78,79,80,81,82,83] (oL (by kernel_rfl));rw[hz] at oG;clear H aD hz;simp only[fcL,fnL,Act.put,sbT,scS,scZ];rw[show zf 83=_ from oG];clear oG;have B8:=B7.tr aK.o;have X8:=X7.st aK.o;clear aK B7 X7 kQ Ca Nl bZ wG wK;by_cases uZ:W=W0
       ·have q3:(W != W0)=false:=by simpa using uZ
        have yH:=I (Pd (f:=jF c set) rU.o (by rw[cV.o];exact decide_eq_true uZ) HA.o)
        go_wp2_with fail
        go_roundw
        case rel=>exact⟨ix+1,by go_num,by omega,yH,B8,X8⟩
        case measure=>simp only[intOf];omega
       ·have q3:(W != W0)=true:=by simpa using uZ
        have HE:Hid (cX=false):=I (by rw[qI.o,xD rU.o (f:=jF c set) (by rw[cV.o];exact decide_eq_false uZ)];rfl)
        go_wp2_with fail
        go_ret;exact⟨aF HE.o.symm,B8.o⟩
     ·have gP:Hid ((0:Int)<(ix:Nat)):=I (by omega)
      obtain⟨j,hj⟩:∃ j,ix=j+1:=⟨ix-1,by omega⟩;obtain⟨q1,mQ,xE,Mc⟩:=BF.o j (by omega);have OY:=I Mc;have wT:Hid (IntKind.i64.wrap ((ix:Int)-1)=((j:Nat):Int)):=I (by rw[hj];rw[show(((j+1:Nat):Int)-1)=((j:Nat):Int) by omega];exact fU _ (by omega));have jt:Hid (max ((j:Nat):Int) 0=((j:Nat):Int)):=I (by omega);have js:Hid ((j:Int)<n):=I (by omega)
      have Kd:Hid (jF c set ix=(decide (q1<q)&&decide (W=W0))):=I (by
       have e:ix-1=j:=by omega
       rw[zI.o,e,Hb.o,Dx.o,Hc.o,xE,Mi.o,Sd.o,decide_eq_false wA,Bool.false_or,cH])
      clear BF mQ xE Mc hj;by_cases aE:q1<q
      ·have tW:Hid (¬ q<=q1):=I (by omega)
       have cV:Hid (jF c set ix=decide (W=W0)):=I (by rw[Kd.o,decide_eq_true aE,cH]);refine oK (lF (Z4z w.heap.size gq oq gu ou ix j v v0 n lc un uc (some ⟨gu,ou,none⟩) q q1 W W0)) (by kernel_rfl) (fun _ _ _ _ h _=>h) (jD (by kernel_rfl)) (oJ (by kernel_rfl)) (iV (by kernel_rfl)) ?hs ?he
       case hs =>
        intro i o hi listed a' w' H aU;have hb:=I H.below;obtain⟨t',df⟩:=a';obtain⟨f',rfl,hf⟩:=Tn t' H.tsize;obtain rfl:df=[]:=H.defers;have bB:f' 3 = .slice (some ⟨gq,oq,none⟩) n lc:=H.sm 3 (by kernel_rfl);have bY:f' 4 = .pointer (some ⟨w.heap.size,0,none⟩):=H.sm 4 (by kernel_rfl);have eP:f' 9 = .int .i64 (ix:Nat):=H.sm 9 (by kernel_rfl);have aA:=H.hL aU hf;clear aU H hf;rcases GG i (lI.1 hi).1 with rfl | rfl | rfl | rfl | rfl | rfl | rfl | rfl | rfl | rfl | rfl | rfl | rfl | rfl | rfl | rfl | rfl | rfl | rfl | rfl | rfl | rfl | rfl | rfl | rfl | rfl | rfl | rfl | rfl | rfl | rfl | rfl | rfl | rfl | rfl<;>obtain rfl:=bF hi;rw[eP]
        rotate_left
        ·have fT:=aA 0 49 rfl rfl
         clear aA;rw[fT];clear fT bB bY eP;have hp:=gP.o;refine aP rfl ?_
         go_wp2_with fail
         exact aI ⟨_,rfl,aG _ _,by first | rfl | exact congrArg Value.bool (by first | exact decide_eq_true (by omega) | exact decide_eq_false (by omega))⟩
        rw[aA 1 50 rfl rfl]
        rotate_left
        rw[bB,aA 2 51 rfl rfl]
        rotate_left
        rw[eP,aA 2 51 rfl rfl]
        rotate_left
        rw[aA 2 51 rfl rfl,aA 4 53 rfl rfl];have rE:=wT.o
        rotate_left
        rw[aA 2 51 rfl rfl,aA 5 54 rfl rfl];have r_:=jt.o
        rotate_left
        rw[aA 2 51 rfl rfl,aA 3 52 rfl rfl,aA 6 55 rfl rfl];have hj:=js.o
        rotate_left
        rw[aA 2 51 rfl rfl,aA 7 56 rfl rfl];have p0:=OY.o w' hb.o
        rotate_left
        rw[bB,aA 2 51 rfl rfl]
        rotate_left
        rw[eP,aA 2 51 rfl rfl]
        rotate_left
        rw[aA 2 51 rfl rfl,aA 9 58 rfl rfl,aA 10 59 rfl rfl];have ii:=mH.o
        rotate_left
        rw[aA 2 51 rfl rfl,aA 11 60 rfl rfl];have p0:=kQ.o w' hb.o
        rotate_left
        ·have kF:=aA 2 51 rfl rfl
         have fE:=aA 8 57 rfl rfl;have cW:=aA 12 61 rfl rfl;clear aA;rw[kF,fE,cW];clear kF fE cW bB bY eP;have qu:=tW.o;refine aP rfl ?_
         go_wp2_with fail
         exact aI ⟨_,rfl,aG _ _,by first | rfl | exact congrArg Value.bool (by first | exact decide_eq_true (by omega) | exact decide_eq_false (by omega))⟩
        rw[aA 2 51 rfl rfl,aA 13 62 rfl rfl]
        rotate_left
        rw[aA 14 63 rfl rfl]
        rotate_left
        rw[bY,aA 15 64 rfl rfl]
        rotate_left
        rw[aA 15 64 rfl rfl,aA 16 65 rfl rfl];have c2:=(bZ.o w' hb.o).cell 2 _ rfl
        rotate_left
        rw[bB,aA 15 64 rfl rfl]
        rotate_left
        rw[eP,aA 15 64 rfl rfl]
        rotate_left
        rw[aA 15 64 rfl rfl,aA 18 67 rfl rfl,aA 19 68 rfl rfl];have ii:=mH.o
        rotate_left
        rw[aA 15 64 rfl rfl,aA 20 69 rfl rfl];have p0:=Ca.o w' hb.o
        rotate_left
        rw[aA 15 64 rfl rfl,aA 17 66 rfl rfl,aA 21 70 rfl rfl];have iv:=uR.o
        rotate_left
        rw[aA 15 64 rfl rfl,aA 22 71 rfl rfl]
        rotate_left
        rw[aA 15 64 rfl rfl,aA 23 72 rfl rfl];have u1:=wG.o w' hb.o
        rotate_left
        rw[bY,aA 15 64 rfl rfl]
        rotate_left
        rw[aA 15 64 rfl rfl,aA 25 74 rfl rfl];have c2:=(bZ.o w' hb.o).cell 2 _ rfl
        rotate_left
        rw[bB,aA 15 64 rfl rfl]
        rotate_left
        rw[aA 15 64 rfl rfl,aA 27 76 rfl rfl];have rB:=Us.o
        rotate_left
        rw[aA 15 64 rfl rfl,aA 28 77 rfl rfl];have p0:=Nl.o w' hb.o
        rotate_left
        rw[aA 15 64 rfl rfl,aA 26 75 rfl rfl,aA 29 78 rfl rfl];have iv:=Uw.o
        rotate_left
        rw[aA 15 64 rfl rfl,aA 30 79 rfl rfl]
        rotate_left
        rw[aA 15 64 rfl rfl,aA 31 80 rfl rfl];have u1:=wK.o w' hb.o
        rotate_left
        rw[aA 15 64 rfl rfl,aA 24 73 rfl rfl,aA 32 81 rfl rfl]
        rotate_left
        rw[aA 15 64 rfl rfl,aA 33 82 rfl rfl]
        rotate_left
        all_goals clear aA bB bY eP
        all_goals (refine aP rfl ?_;go_wp2_with fail;exact aI ⟨_,rfl,aG _ _,rfl⟩)
       case he =>
        intro listed a' w5 H aD;have oG:=H.done 34 _ 83 rfl (aD 34 (by decide)) rfl;have aK:=I H.below;obtain⟨zf,hz,rfl⟩:=H.actz [49,50,51,52,53,54,55,56,57,58,59,60,61,62,63,64,65,66,67,68,69,70,71,72,73,74,75,76,77,78,79,80,81,82,83] (oL (by kernel_rfl));rw[hz] at oG;clear H aD hz;simp only[fcL,fnL,Act.put,sbT,scS,scZ];rw[show zf 83=_ from oG];clear oG;have B8:=B7.tr aK.o;have X8:=X7.st aK.o;clear aK B7 X7 kQ Ca Nl bZ wG wK;by_cases uZ:W=W0
        ·have q3:(W != W0)=false:=by simpa using uZ
         have yH:=I (Pd (f:=jF c set) rU.o (by rw[cV.o];exact decide_eq_true uZ) HA.o)
         go_wp2_with fail
         go_roundw
         case rel=>exact⟨ix+1,by go_num,by omega,yH,B8,X8⟩
         case measure=>simp only[intOf];omega
        ·have q3:(W != W0)=true:=by simpa using uZ
         have HE:Hid (cX=false):=I (by rw[qI.o,xD rU.o (f:=jF c set) (by rw[cV.o];exact decide_eq_false uZ)];rfl)
         go_wp2_with fail
         go_ret;exact⟨aF HE.o.symm,B8.o⟩
      ·have tW:Hid (q<=q1):=I (by omega)
       have HE:Hid (cX=false):=I (by rw[qI.o,xD rU.o (f:=jF c set) (by rw[Kd.o,decide_eq_false aE];rfl)];rfl);refine oK (lF (Z40 w.heap.size gq oq gu ou ix j v v0 n lc un uc (some ⟨gu,ou,none⟩) q q1 W W0)) (by kernel_rfl) (fun _ _ _ _ h _=>h) (jD (by kernel_rfl)) (oJ (by kernel_rfl)) (iV (by kernel_rfl)) ?hs ?he
       case hs =>
        intro i o hi listed a' w' H aU;have hb:=I H.below;obtain⟨t',df⟩:=a';obtain⟨f',rfl,hf⟩:=Tn t' H.tsize;obtain rfl:df=[]:=H.defers;have bB:f' 3 = .slice (some ⟨gq,oq,none⟩) n lc:=H.sm 3 (by kernel_rfl);have bY:f' 4 = .pointer (some ⟨w.heap.size,0,none⟩):=H.sm 4 (by kernel_rfl);have eP:f' 9 = .int .i64 (ix:Nat):=H.sm 9 (by kernel_rfl);have aA:=H.hL aU hf;clear aU H hf;rcases GG i (lI.1 hi).1 with rfl | rfl | rfl | rfl | rfl | rfl | rfl | rfl | rfl | rfl | rfl | rfl | rfl | rfl | rfl | rfl | rfl | rfl | rfl | rfl | rfl | rfl | rfl | rfl | rfl | rfl | rfl | rfl | rfl | rfl | rfl | rfl | rfl | rfl | rfl<;>obtain rfl:=bF hi;rw[eP]
        rotate_left
        ·have fT:=aA 0 49 rfl rfl
         clear aA;rw[fT];clear fT bB bY eP;have hp:=gP.o;refine aP rfl ?_
         go_wp2_with fail
         exact aI ⟨_,rfl,aG _ _,by first | rfl | exact congrArg Value.bool (by first | exact decide_eq_true (by omega) | exact decide_eq_false (by omega))⟩
        rw[aA 1 50 rfl rfl]
        rotate_left
        rw[bB,aA 2 51 rfl rfl]
        rotate_left
        rw[eP,aA 2 51 rfl rfl]
        rotate_left
        rw[aA 2 51 rfl rfl,aA 4 53 rfl rfl];have rE:=wT.o
        rotate_left
        rw[aA 2 51 rfl rfl,aA 5 54 rfl rfl];have r_:=jt.o
        rotate_left
        rw[aA 2 51 rfl rfl,aA 3 52 rfl rfl,aA 6 55 rfl rfl];have hj:=js.o
        rotate_left
        rw[aA 2 51 rfl rfl,aA 7 56 rfl rfl];have p0:=OY.o w' hb.o
        rotate_left
        rw[bB,aA 2 51 rfl rfl]
        rotate_left
        rw[eP,aA 2 51 rfl rfl]
        rotate_left
        rw[aA 2 51 rfl rfl,aA 9 58 rfl rfl,aA 10 59 rfl rfl];have ii:=mH.o
        rotate_left
        rw[aA 2 51 rfl rfl,aA 11 60 rfl rfl];have p0:=kQ.o w' hb.o
        rotate_left
        ·have kF:=aA 2 51 rfl rfl
         have fE:=aA 8 57 rfl rfl;have cW:=aA 12 61 rfl rfl;clear aA;rw[kF,fE,cW];clear kF fE cW bB bY eP;have qu:=tW.o;refine aP rfl ?_
         go_wp2_with fail
         exact aI ⟨_,rfl,aG _ _,by first | rfl | exact congrArg Value.bool (by first | exact decide_eq_true (by omega) | exact decide_eq_false (by omega))⟩
        rw[aA 2 51 rfl rfl,aA 13 62 rfl rfl]
        rotate_left
        rw[aA 14 63 rfl rfl]
        rotate_left
        rw[bY,aA 15 64 rfl rfl]
        rotate_left
        rw[aA 15 64 rfl rfl,aA 16 65 rfl rfl]
        rotate_left
        rw[bB,aA 15 64 rfl rfl]
        rotate_left
        rw[eP,aA 15 64 rfl rfl]
        rotate_left
        rw[aA 15 64 rfl rfl,aA 18 67 rfl rfl,aA 19 68 rfl rfl]
        rotate_left
        rw[aA 15 64 rfl rfl,aA 20 69 rfl rfl]
        rotate_left
        rw[aA 15 64 rfl rfl,aA 17 66 rfl rfl,aA 21 70 rfl rfl]
        rotate_left
        rw[aA 15 64 rfl rfl,aA 22 71 rfl rfl]
        rotate_left
        rw[aA 15 64 rfl rfl,aA 23 72 rfl rfl]
        rotate_left
        rw[bY,aA 15 64 rfl rfl]
        rotate_left
        rw[aA 15 64 rfl rfl,aA 25 74 rfl rfl]
        rotate_left
        rw[bB,aA 15 64 rfl rfl]
        rotate_left
        rw[aA 15 64 rfl rfl,aA 27 76 rfl rfl]
        rotate_left
        rw[aA 15 64 rfl rfl,aA 28 77 rfl rfl]
        rotate_left
        rw[aA 15 64 rfl rfl,aA 26 75 rfl rfl,aA 29 78 rfl rfl]
        rotate_left
        rw[aA 15 64 rfl rfl,aA 30 79 rfl rfl]
        rotate_left
        rw[aA 15 64 rfl rfl,aA 31 80 rfl rfl]
        rotate_left
        rw[aA 15 64 rfl rfl,aA 24 73 rfl rfl,aA 32 81 rfl rfl]
        rotate_left
        rw[aA 15 64 rfl rfl,aA 33 82 rfl rfl]
        rotate_left
        all_goals clear aA bB bY eP
        all_goals (refine aP rfl ?_;go_wp2_with fail;exact aI ⟨_,rfl,aG _ _,rfl⟩)
       case he =>
        intro listed a' w5 H aD;have oG:=H.done 34 _ 83 rfl (aD 34 (by decide)) rfl;have aK:=I H.below;obtain⟨zf,hz,rfl⟩:=H.actz [49,50,51,52,53,54,55,56,57,58,59,60,61,62,63,64,65,66,67,68,69,70,71,72,73,74,75,76,77,78,79,80,81,82,83] (oL (by kernel_rfl));rw[hz] at oG;clear H aD hz;simp only[fcL,fnL,Act.put,sbT,scS,scZ];rw[show zf 83=_ from oG];clear oG;have B8:=B7.tr aK.o;clear aK B7 X7 kQ Ca Nl bZ wG wK
        go_wp2_with fail
        go_ret;exact⟨aF HE.o.symm,B8.o⟩
  ·have ii:¬ (ix:Int)<n:=by omega
   have Ra:Hid (cX=decide (nH c (bV c (aW c) uv mk) set mn<(n:Int))):=I (by rw[qI.o,Tm (f:=jF c set) (by rw[List.length_range];omega) HA.o,cH]);have kt:Hid (∀ i,i<n->jF c set i=true):=I (fun i hi=>HA.o i (by rw[List.take_of_length_le (by rw[List.length_range];omega)];exact List.mem_range.2 hi))
   have OZ:Hid (∀ i q,set[i]?=some q->∃ v:Nat,q=(v:Int)/\v<un):=I (fun i q hq=>by
    have hi:=(fD.1 hq).1;have h:=kt.o i (by rw[<- rD.o];exact hi);rw[zI.o,bR (i:=i),hq,dB,dB] at h
    exact Vl.o q h.1.1)
   have rR:=I (pI.o wr BR.o hv);have cV:=I (cU.o hv);have Kk:=I ((cU.o hv).fix uv mk);have Dy:=I (fun q2 d1 q3 d2 q4 d3 co cc W hr=>jH.o q2 d1 q3 d2 q4 d3 co cc (aW c) uv mk W hr cV.o kD iQ);have cj:=I (Qd.o (bV c (aW c) uv mk) hv);have yD:=I (tT.o (bV c (aW c) uv mk));have yH:=I (Jv.o (bV c (aW c) uv mk));have Gl:=I (fun j m h k=>Gl.o hv j m h k);have zL:=I (fun x hx=>zL.o hv x hx);obtain⟨CF,hCF⟩:=exq (bV c (aW c) uv mk);rw[hCF] at Ra Kk Dy cj yD yH;clear qI HA kt pI cU jH Qd tT Jv hCF hv eZ mZ vG zI Vl cV
   go_upto_region 10 with(fail)
   go_wp2_with (refine wpList_load_row rfl 26 (.tmp 4) rfl (w.heap.size) ?x3 26 #[.slice qo qn qc,.slice mo mn mc,.slice uo un uc] (0,0) _ XR.o Tryz.underlying26 rfl (kU _ _ _) ?_;(case x3=>rfl))
   refine rR.o.mono ?_;rintro e w4 ⟨⟨q2,d1,q3,d2,q4,d3,co,cc,rfl,hr⟩,b4⟩;have X4:=XR.st b4;have B4:=BR.tr b4
   try rw[fF.o] at Dy
   try rw[dZ.o] at Dy
   try rw[fF.o] at hr
   try rw[dZ.o] at hr
   try rw[fF.o]
   try rw[dZ.o]
   have PD:=I (Dy.o q2 d1 q3 d2 q4 d3 co cc w4 hr);clear b4 XR BR rR hr Dy
   go_wp2_with fail
   refine PD.o.mono ?_;rintro e w5 ⟨⟨co',cc',rfl,hr⟩,b5⟩;have X5:=X4.st b5;have B5:=B4.tr b5;have PE:=I hr;clear b5 X4 B4 PD hr
   go_upto_region 13 with(fail)
   have S9:=hnw w5 137 [.slice q2 qn d1,.slice q3 mn d2,.slice q4 un d3,.slice co' un cc'];have A9:=I (bwA w5 (.cells #[.slice q2 qn d1,.slice q3 mn d2,.slice q4 un d3,.slice co' un cc'] 137));generalize w5.alloc (.cells #[.slice q2 qn d1,.slice q3 mn d2,.slice q4 un d3,.slice co' un cc'] 137)=w9 at *;have X9:=X5.st A9.o;have B9:=B5.tr A9.o;have BG:=I (fun W (hW:Below w5.heap.size w5 W)=>PE.o.below hW);obtain⟨iU,hTBK⟩:=exq (w5.heap.size);rw[hTBK] at S9 ⊢;clear X5 B5 PE hTBK
   go_loopw [11,12] (fun rv kv wr=>∃ (k:Nat),kv = .int .i64 k/\rv = .int .i64 (nH c CF set k)/\k<=mn/\Hid (Below w5.heap.size w5 wr)/\Hid (Below w.heap.size w wr)/\Hid (aC wr w.heap.size 26 [.slice qo qn qc,.slice mo mn mc,.slice uo un uc])/\Hid (aC wr iU 137 [.slice q2 qn d1,.slice q3 mn d2,.slice q4 un d3,.slice co' un cc'])) (fun _ k _=>(mn-intOf k).toNat)
   case atStart=>exact⟨0,rfl,rfl,by omega,A9,B9,X9,S9⟩
   case round =>
    clear B9 X9 S9 A9 ii hi;obtain⟨k,rfl,rfl,hk,AR,BR,XR,SR⟩:=hrel;have e2:=w1i k (by omega);have c1:=XR.o.cell 1 _ rfl;have PG:=cj.o k;have yI:=I (yD.o k);obtain⟨R,hR⟩:=exq (nH c CF set k);rw[hR] at PG yI ⊢;have ij:=I hR;clear hR;by_cases oR:k<mn
    ·have kk:(k:Int)<mn:=by omega
     have wB:=I kk
     go_upto_region 17 with(fail)
     clear c1;generalize wr=wo at *
     go_loopw [13,14] (fun fv jv wr=>∃ (j:Nat),jv = .int .i64 j/\fv = .bool (eJ CF (set.take j) k)/\j<=n/\Hid (Below w5.heap.size w5 wr)/\Hid (Below w.heap.size w wr)/\Hid (aC wr w.heap.size 26 [.slice qo qn qc,.slice mo mn mc,.slice uo un uc])/\Hid (aC wr iU 137 [.slice q2 qn d1,.slice q3 mn d2,.slice q4 un d3,.slice co' un cc'])) (fun _ j _=>(n-intOf j).toNat)
     case atStart=>exact⟨0,rfl,rfl,by omega,AR,BR,XR,SR⟩
     case round =>
      clear AR BR XR SR;obtain⟨jx,rfl,rfl,hj,AR,BR,XR,SR⟩:=hrel;have e3:=w1i jx (by omega);by_cases rM:jx<n
      ·have ii:(jx:Int)<n:=by omega
       have mH:=I ii;obtain⟨q,hq⟩:∃ q,set[jx]?=some q:=⟨_,aL (by rw[rD.o];exact rM)⟩;obtain⟨v,nU,iJ⟩:=OZ.o jx q hq;have uR:Hid ((v:Int)<un):=I (by omega);have Dz:=I (yH.o jx q k hq);rw[nU,Int.toNat_natCast] at Dz;obtain⟨gq,oq,fI,pP,eK⟩:=(fQ.o wr BR.o).at jN jx q hq;have y0:=eK 0 _ rfl;rw[Nat.mul_one,Nat.add_zero,nU] at y0;have Ca:=I (fun W (hW:Below wr.heap.size wr W)=>(hW.cell (p:=⟨gq,oq+jx,none⟩) pP).trans y0);have mY:=I (fun W (hW:Below wr.heap.size wr W)=>SR.o.step hW);obtain⟨gc,oc,bo,bc,iE,mU,fS,bu⟩:=sV.o wr CF co' v (BG.o wr AR.o) Kk.o iJ;obtain⟨g2,p2,dE,qF,y1⟩:=bu k oR;obtain⟨cb,rF⟩:=exq ((CF.getD v []).getD k false);rw[rF] at y1 Dz;subst dE;have oE:=I (fun W (hW:Below wr.heap.size wr W)=>(hW.cell (p:=⟨gc,oc+v,none⟩) mU).trans fS);have mV:=I (fun W (hW:Below wr.heap.size wr W)=>(hW.cell (p:=⟨g2,p2+k,none⟩) qF).trans y1);have Gd:=I fI;have rQ:=I iE;clear hq nU iJ eK y0 pP fS bu y1 rF mU qF;subst fI;subst iE;obtain⟨ab,uF⟩:=exq (eJ CF (set.take jx) k);rw[uF] at Dz ⊢;clear uF
       go_upto_region 19 with(fail)
       cases ab with
       | true =>
        refine Ff 14 0 (lF (Z42 iU gq oq gc oc g2 p2 jx k v n lc un cc' mn bc cb)) (by kernel_rfl) rfl (fun _ _ _ _ h _=>h) (jD (by kernel_rfl)) (Fe (by kernel_rfl)) (iV (by kernel_rfl)) (Fg (by kernel_rfl)) ?hs ?he
        case hs =>
         intro i o aT hi listed a' w' H bA aU;have hb:=I H.below;obtain⟨t',df⟩:=a';obtain⟨f',rfl,hf⟩:=Tn t' H.tsize;obtain rfl:df=[]:=H.defers;have bB:f' 3 = .slice (some ⟨gq,oq,none⟩) n lc:=bA 3 (gK (by kernel_rfl));have dO:f' 10 = .pointer (some ⟨iU,0,none⟩):=bA 10 (gK (by kernel_rfl));have eG:f' 12 = .int .i64 (k:Nat):=bA 12 (gK (by kernel_rfl));have fM:f' 13 = .bool true:=bA 13 (gK (by kernel_rfl));have fN:f' 14 = .int .i64 (jx:Nat):=bA 14 (gK (by kernel_rfl));have aA:=H.hL aU hf;clear aU H bA hf;have bP:i=0\/i=1\/i=2\/i=3\/i=4\/i=5\/i=6\/i=7\/i=8\/i=9\/i=10\/i=11\/i=12\/i=13:=nj i aT;clear aT;rcases bP with rfl | rfl | rfl | rfl | rfl | rfl | rfl | rfl | rfl | rfl | rfl | rfl | rfl | rfl<;>obtain rfl:=bF hi;rw[fM]
         rotate_left
         rw[aA 0 102 rfl rfl]
         rotate_left
         rw[dO,aA 1 103 rfl rfl]
         rotate_left
         rw[aA 1 103 rfl rfl,aA 2 104 rfl rfl]
         rotate_left
         rw[bB,aA 1 103 rfl rfl]
         rotate_left
         rw[fN,aA 1 103 rfl rfl]
         rotate_left
         rw[aA 1 103 rfl rfl,aA 4 106 rfl rfl,aA 5 107 rfl rfl]
         rotate_left
         rw[aA 1 103 rfl rfl,aA 6 108 rfl rfl]
         rotate_left
         rw[aA 1 103 rfl rfl,aA 3 105 rfl rfl,aA 7 109 rfl rfl]
         rotate_left
         rw[aA 1 103 rfl rfl,aA 8 110 rfl rfl]
         rotate_left
         rw[eG,aA 1 103 rfl rfl]
         rotate_left
         rw[aA 1 103 rfl rfl,aA 9 111 rfl rfl,aA 10 112 rfl rfl]
         rotate_left
         rw[aA 1 103 rfl rfl,aA 11 113 rfl rfl]
         rotate_left
         rw[aA 1 103 rfl rfl,aA 12 114 rfl rfl]
         rotate_left
         all_goals clear aA bB dO eG fM fN
         all_goals (refine aP rfl ?_;go_wp2_with fail;exact aI ⟨_,rfl,aG _ _,rfl⟩)
        case he =>
         intro listed a' w5 H bA aD;have kH:=H.done 13 _ 115 rfl (aD 13 (by decide)) rfl;have aK:=I H.below;obtain⟨zf,hz,rfl⟩:=H.actNz bA [102,103,104,105,106,107,108,109,110,111,112,113,114,115] (Fh (by kernel_rfl));rw[hz] at kH;clear H aD bA hz;simp only[fcL,fnL,Act.put,sbT,scS,scZ];rw[show zf 115=_ from kH];clear kH;have A8:=AR.tr aK.o;have B8:=BR.tr aK.o;have X8:=XR.st aK.o;have S8:=SR.st aK.o;have Ch:Hid (eJ CF (set.take (jx+1)) k=true):=I (by rw[Dz.o];rfl);clear aK AR BR XR SR Ca mY oE mV;refine nE (aP rfl ?_)
         go_wp2_with fail
         refine aI (vM ?_)
         go_wp2_with fail
         go_roundw
         case rel=>exact⟨jx+1,by go_num,by rw[Ch.o],by omega,A8,B8,X8,S8⟩
         case measure=>simp only[intOf];omega
       | false =>
        refine Ff 14 0 (lF (Z41 iU gq oq gc oc g2 p2 jx k v n lc un cc' mn bc cb)) (by kernel_rfl) rfl (fun _ _ _ _ h _=>h) (jD (by kernel_rfl)) (Fe (by kernel_rfl)) (iV (by kernel_rfl)) (Fg (by kernel_rfl)) ?hs ?he
        case hs =>
         intro i o aT hi listed a' w' H bA aU;have hb:=I H.below;obtain⟨t',df⟩:=a';obtain⟨f',rfl,hf⟩:=Tn t' H.tsize;obtain rfl:df=[]:=H.defers;have bB:f' 3 = .slice (some ⟨gq,oq,none⟩) n lc:=bA 3 (gK (by kernel_rfl));have dO:f' 10 = .pointer (some ⟨iU,0,none⟩):=bA 10 (gK (by kernel_rfl));have eG:f' 12 = .int .i64 (k:Nat):=bA 12 (gK (by kernel_rfl));have fM:f' 13 = .bool false:=bA 13 (gK (by kernel_rfl));have fN:f' 14 = .int .i64 (jx:Nat):=bA 14 (gK (by kernel_rfl));have aA:=H.hL aU hf;clear aU H bA hf;have bP:i=0\/i=1\/i=2\/i=3\/i=4\/i=5\/i=6\/i=7\/i=8\/i=9\/i=10\/i=11\/i=12\/i=13:=nj i aT;clear aT;rcases bP with rfl | rfl | rfl | rfl | rfl | rfl | rfl | rfl | rfl | rfl | rfl | rfl | rfl | rfl<;>obtain rfl:=bF hi;rw[fM]
         rotate_left
         rw[aA 0 102 rfl rfl]
         rotate_left
         rw[dO,aA 1 103 rfl rfl]
         rotate_left
         rw[aA 1 103 rfl rfl,aA 2 104 rfl rfl];have c3:=(mY.o w' hb.o).cell 3 _ rfl
         rotate_left
         rw[bB,aA 1 103 rfl rfl]
         rotate_left
         rw[fN,aA 1 103 rfl rfl]
         rotate_left
         rw[aA 1 103 rfl rfl,aA 4 106 rfl rfl,aA 5 107 rfl rfl];have ii:=mH.o
         rotate_left
         rw[aA 1 103 rfl rfl,aA 6 108 rfl rfl];have p0:=Ca.o w' hb.o
         rotate_left
         rw[aA 1 103 rfl rfl,aA 3 105 rfl rfl,aA 7 109 rfl rfl];have iv:=uR.o
         rotate_left
         rw[aA 1 103 rfl rfl,aA 8 110 rfl rfl];have r0:=oE.o w' hb.o
         rotate_left
         rw[eG,aA 1 103 rfl rfl]
         rotate_left
         rw[aA 1 103 rfl rfl,aA 9 111 rfl rfl,aA 10 112 rfl rfl];have kk:=wB.o
         rotate_left
         rw[aA 1 103 rfl rfl,aA 11 113 rfl rfl];have y0:=mV.o w' hb.o
         rotate_left
         rw[aA 1 103 rfl rfl,aA 12 114 rfl rfl]
         rotate_left
         all_goals clear aA bB dO eG fM fN
         all_goals (refine aP rfl ?_;go_wp2_with fail;exact aI ⟨_,rfl,aG _ _,rfl⟩)
        case he =>
         intro listed a' w5 H bA aD;have kH:=H.done 13 _ 115 rfl (aD 13 (by decide)) rfl;have aK:=I H.below;obtain⟨zf,hz,rfl⟩:=H.actNz bA [102,103,104,105,106,107,108,109,110,111,112,113,114,115] (Fh (by kernel_rfl));rw[hz] at kH;clear H aD bA hz;simp only[fcL,fnL,Act.put,sbT,scS,scZ];rw[show zf 115=_ from kH];clear kH;have A8:=AR.tr aK.o;have B8:=BR.tr aK.o;have X8:=XR.st aK.o;have S8:=SR.st aK.o;have Ch:Hid (eJ CF (set.take (jx+1)) k=cb):=I (by rw[Dz.o];rw[Bool.false_or]);clear aK AR BR XR SR Ca mY oE mV;refine nE (aP rfl ?_)
         go_wp2_with fail
         refine aI (vM ?_)
         go_wp2_with fail
         go_roundw
         case rel=>exact⟨jx+1,by go_num,by rw[Ch.o],by omega,A8,B8,X8,S8⟩
         case measure=>simp only[intOf];omega
      ·have ii:¬ (jx:Int)<n:=by omega
       obtain⟨ab,uF⟩:=exq (eJ CF (set.take jx) k);have Ci:Hid (eJ CF set k=ab):=I (by rw[<- uF,List.take_of_length_le (by rw[rD.o];omega)]);rw[uF];rw[Ci.o] at yI;clear uF
       cases ab with
       | false =>
        have yZ:Hid (nH c CF set (k+1)=R):=I (by rw[yI.o];simp)
        go_wp2_with fail
        go_roundw
        case rel=>exact⟨k+1,by go_num,by rw[yZ.o],by omega,AR,BR,XR,SR⟩
        case measure=>simp only[intOf];omega
       | true =>
        rw[if_pos rfl] at yI;obtain⟨Hd,dL⟩:∃ q,set[0]?=some q:=⟨_,aL (by rw[rD.o];omega)⟩;obtain⟨v0,yG,hv0u⟩:=OZ.o 0 Hd dL;obtain⟨x0,mG⟩:∃ x,c.us[v0]?=some x:=⟨_,aL (by rw[dZ.o];exact hv0u)⟩;have Yd:=zL.o x0 (bU mG);obtain⟨wd,wP⟩:∃ v:Nat,x0.w=(v:Int):=⟨x0.w.toNat,by omega⟩
        have Dx:Hid ((pY c (set.getD 0 0)).toNat=wd):=I (by
         rw[bR,dL];show(pY c Hd).toNat=wd
         rw[yG,gB.o v0 x0 mG,wP,Int.toNat_natCast])
        rw[Dx.o] at yI;obtain⟨m,hm⟩:∃ m,c.ms[k]?=some m:=⟨_,aL (by rw[fF.o];exact oR)⟩;obtain⟨vB,s_,tS⟩:=Gl.o k m hm wd;obtain⟨gm,om,csm,lC,gI,dX,nB⟩:=(nA.o wr BR.o).at k m hm;have dM:=I (fun W (hW:Below wr.heap.size wr W)=>FT W m csm (dX.below hW) wd (by omega) (by omega));obtain⟨tk,yF⟩:=exq (eI m.t wd)
        have yZ:Hid (nH c CF set (k+1)=R+tk):=I (by
         rw[yI.o,<- yF,bR,hm];rfl)
        rw[yF] at dM vB;have Qd:Hid (IntKind.i64.wrap (R+tk)=R+tk):=I (fU _ (by omega));obtain⟨bo,bc,to',tc,rfl,-,-⟩:=dX;have p0:wr.cell? ⟨gm,om+k*3,none⟩=some (.slice bo m.b.length bc):=nB 0 _ rfl;have p1:wr.cell? ⟨gm,om+k*3+1,none⟩=some (.slice to' m.t.length tc):=nB 1 _ rfl;have p2:wr.cell? ⟨gm,om+k*3+2,none⟩=some (.int .i64 m.r):=nB 2 _ rfl;have qK:=I (fun W (hW:Below wr.heap.size wr W)=>(⟨(hW.cell (p:=⟨gm,om+k*3,none⟩) gI).trans p0,(hW.cell (p:=⟨gm,om+k*3+1,none⟩) gI).trans p1,(hW.cell (p:=⟨gm,om+k*3+2,none⟩) gI).trans p2⟩:_/\_/\_));obtain⟨gu,ou,eV,iZ,cF⟩:=(jJ.o wr BR.o).at mN v0 x0 mG;have u1:wr.cell? ⟨gu,ou+v0*4+1,none⟩=some (.int .i64 x0.w):=cF 1 _ rfl;rw[wP] at u1;have wK:=I (fun W (hW:Below wr.heap.size wr W)=>(hW.cell (p:=⟨gu,ou+v0*4+1,none⟩) iZ).trans u1);obtain⟨g5,o5,cd,ci,Ru⟩:=(fQ.o wr BR.o).at jN 0 Hd dL;have y5:=Ru 0 _ rfl;simp only[Nat.zero_mul,Nat.add_zero,yG] at y5;have Nl:=I (fun W (hW:Below wr.heap.size wr W)=>(hW.cell (p:=⟨g5,o5,none⟩) ci).trans y5);have Uw:Hid ((v0:Int)<un):=I (by omega);have bZ:=I (fun W (hW:Below wr.heap.size wr W)=>XR.o.step hW);generalize m.b.length=nb at *;generalize m.t.length=nt at *;generalize m.r=mr at *;clear hm gI nB p0 p1 p2 vB s_ tS yF mG Yd wP cF iZ u1 Ru y5 ci dL yG hv0u;have Mg:=I eV;have Gi:=I lC;have Gd:=I cd;subst eV;subst lC;subst cd
        go_upto_region 21 with(fail)
        refine Ff 16 0 (lF (Z43 w.heap.size g5 o5 gm om gu ou k v0 n lc mn mc un uc nb bc nt tc wd bo to' mr tk R)) (by kernel_rfl) rfl (fun _ _ _ _ h _=>h) (jD (by kernel_rfl)) (Fe (by kernel_rfl)) (iV (by kernel_rfl)) (Fg (by kernel_rfl)) ?hs ?he
        case hs =>
         intro i o aT hi listed a' w' H bA aU;have hb:=I H.below;obtain⟨t',df⟩:=a';obtain⟨f',rfl,hf⟩:=Tn t' H.tsize;obtain rfl:df=[]:=H.defers;have bB:f' 3 = .slice (some ⟨g5,o5,none⟩) n lc:=bA 3 (gK (by kernel_rfl));have bY:f' 4 = .pointer (some ⟨w.heap.size,0,none⟩):=bA 4 (gK (by kernel_rfl));have nC:f' 11 = .int .i64 R:=bA 11 (gK (by kernel_rfl));have eG:f' 12 = .int .i64 (k:Nat):=bA 12 (gK (by kernel_rfl));have aA:=H.hL aU hf;clear aU H bA hf;have bP:i=0\/i=1\/i=2\/i=3\/i=4\/i=5\/i=6\/i=7\/i=8\/i=9\/i=10\/i=11\/i=12\/i=13\/i=14\/i=15:=ny i aT;clear aT;rcases bP with rfl | rfl | rfl | rfl | rfl | rfl | rfl | rfl | rfl | rfl | rfl | rfl | rfl | rfl | rfl | rfl<;>obtain rfl:=bF hi;rw[nC]
         rotate_left
         rw[bY]
         rotate_left
         rw[aA 1 118 rfl rfl];have c1:=(bZ.o w' hb.o).cell 1 _ rfl
         rotate_left
         rw[eG]
         rotate_left
         rw[aA 2 119 rfl rfl,aA 3 120 rfl rfl];have kk:=wB.o
         rotate_left
         rw[aA 4 121 rfl rfl];obtain⟨p0,p1,p2⟩:=qK.o w' hb.o
         rotate_left
         rw[bY]
         rotate_left
         rw[aA 6 123 rfl rfl];have c2:=(bZ.o w' hb.o).cell 2 _ rfl
         rotate_left
         rw[bB]
         rotate_left
         rw[aA 8 125 rfl rfl];have rB:=Us.o
         rotate_left
         rw[aA 9 126 rfl rfl];have p0:=Nl.o w' hb.o
         rotate_left
         rw[aA 7 124 rfl rfl,aA 10 127 rfl rfl];have iv:=Uw.o
         rotate_left
         rw[aA 11 128 rfl rfl]
         rotate_left
         rw[aA 12 129 rfl rfl];have u1:=wK.o w' hb.o
         rotate_left
         ·have dR:=aA 5 122 rfl rfl
          have lU:=aA 13 130 rfl rfl;clear aA;rw[dR,lU];clear dR lU bB bY nC eG;refine aP rfl ?_
          go_wp2_with fail
          refine(dM.o w' hb.o).mono ?_;rintro e w4 ⟨rfl,b4⟩;have bC:=I b4;clear b4
          go_wp2_with fail
          exact aI ⟨_,rfl,bC.o,rfl⟩
         rw[aA 0 117 rfl rfl,aA 14 131 rfl rfl];have PG:=Qd.o
         rotate_left
         all_goals clear aA bB bY nC eG
         all_goals (refine aP rfl ?_;go_wp2_with fail;exact aI ⟨_,rfl,aG _ _,rfl⟩)
        case he =>
         intro listed a' w6 H bA aD;have iD:=H.done 15 _ 132 rfl (aD 15 (by decide)) rfl;have aK:=I H.below;obtain⟨zf,hz,rfl⟩:=H.actNz bA [117,118,119,120,121,122,123,124,125,126,127,128,129,130,131,132] (Fh (by kernel_rfl));rw[hz] at iD;clear H aD bA hz;simp only[fcL,fnL,Act.put,sbT,scS,scZ];rw[show zf 132=_ from iD];clear iD;have A8:=AR.tr aK.o;have B8:=BR.tr aK.o;have X8:=XR.st aK.o;have S8:=SR.st aK.o;clear aK AR BR XR SR dM qK wK Nl bZ Qd;refine nE (aP rfl ?_)
         go_wp2_with fail
         refine aI (vM ?_)
         go_wp2_with fail
         go_roundw
         case rel=>exact⟨k+1,by go_num,by rw[yZ.o],by omega,A8,B8,X8,S8⟩
         case measure=>simp only[intOf];omega
    ·have kk:¬ (k:Int)<mn:=by omega
     obtain rfl:mn=k:=by omega
     have PH:Hid (cX=decide (R<(n:Int))):=I (by rw[Ra.o,ij.o]);by_cases aE:R<(n:Int)
     ·have HE:Hid (cX=true):=I (by rw[PH.o];exact decide_eq_true aE)
      go_wp2_with fail
      go_ret;exact⟨aF HE.o.symm,BR.o⟩
     ·have HE:Hid (cX=false):=I (by rw[PH.o];exact decide_eq_false aE)
      go_wp2_with fail
      go_ret;exact⟨aF HE.o.symm,BR.o⟩
end Go.Proofs.YtbcgocpihobjnaaGreatDoor
