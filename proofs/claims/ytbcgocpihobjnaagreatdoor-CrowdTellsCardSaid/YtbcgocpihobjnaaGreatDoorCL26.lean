import Derived.Deep.CutBlock
import Derived.Deep.DeepCutAuto
import Derived.Deep.OwnRows
import Derived.Test.YtbcgocpihobjnaaGreatDoorCL25
import Derived.Test.YtbcgocpihobjnaaGreatDoorCL24
import Derived.Test.YtbcgocpihobjnaaGreatDoorCL23
import Derived.Test.YtbcgocpihobjnaaGreatDoorCL0
import Derived.Maps.OwnSet
import Derived.Shelf.SlSortCmp.NoneTotal
import Derived.Test.YtbcgocpihobjnaaGreatDoorCL22
import Derived.Test.YtbcgocpihobjnaaGreatDoorShelf
import Derived.Test.YtbcgocpihobjnaaGreatDoorCL11
import Derived.Test.YtbcgocpihobjnaaGreatDoorCL13
import Derived.ArgAppend
import Derived.Test.YtbcgocpihobjnaaGreatDoorCL21
import Derived.Test.YtbcgocpihobjnaaGreatDoorCL16
set_option linter.all false
set_option maxHeartbeats 4000000
set_option maxRecDepth 100000
namespace Go.Proofs.YtbcgocpihobjnaaGreatDoor
section
open Go.RowKit Go.Sort
def ivs(l:List Int):List Value:=l.map (Value.int .i64)
theorem VW(x:Int)(N:Nat):madeCells #[Value.int .i64 x] N=(ivs (List.replicate N x)).toArray:=by
 unfold ivs;apply Array.ext
 ·simp[madeCells]
 ·intro i h1 h2
  simp[madeCells,Nat.mod_one]
end
section
open Go.RowKit Go.Sort
def aZ(x:Int):List Value:=[.int .i64 x]
theorem Nv:∀ l:List Int,ivs l=l.flatMap aZ
 | []=>rfl
 | x::l=>by show _::ivs l=_;rw[Nv l];rfl
theorem jN(x:Int):(aZ x).length=1:=rfl
end
section
open Go.RowKit Go.Sort
theorem tK.below{w w':World}{P:Nat->Prop}{l:List Prd}{ao:Option Addr}(h:tK w P l ao)(hb:Below w.heap.size w w'):tK w' P l ao:=by
 rcases h with h | ⟨g,off,h1,h2,h3,h4⟩
 ·exact .inl h
 ·exact .inr ⟨g,off,h1,h2,gR h3 hb.size,gE.keep (fun g _ hg=>hb.block g hg) hb.size (fun g hg _=>hg) l g off h2 h3 h4⟩
theorem tK.at{w:World}{P:Nat->Prop}{l:List Prd}{ao:Option Addr}(h:tK w P l ao)(i:Nat)(p:Prd)(hp:l[i]?=some p):∃ g off vs,ao=some ⟨g,off,none⟩/\g<w.heap.size/\cK w P p vs/\dD w g (off+i*5) vs:=by
 rcases h with h | ⟨g,off,h1,h2,h3,h4⟩
 ·rw[h] at hp;simp at hp
 ·obtain⟨vs,nU,qD⟩:=gE.at l g off i p hp h4
  exact⟨g,off,vs,h1,h3,nU,qD⟩
end
section
open Go.RowKit Go.Sort
structure Mem where
 b:List Bnd
 t:List Int
 r:Int
structure Use where
 q:Int
 w:Int
 f:Int
 h:Int
structure Crw where
 qs:List Prd
 ms:List Mem
 us:List Use
def cQ(x:Use):List Value:=[.int .i64 x.q,.int .i64 x.w,.int .i64 x.f,.int .i64 x.h]
theorem mN(x:Use):(cQ x).length=4:=rfl
def Bc(w:World)(m:Mem)(cs:List Value):Prop:=∃ bo bc to' tc,cs=[.slice bo m.b.length bc,.slice to' m.t.length tc,.int .i64 m.r]/\tJ w (fun _=>True) m.b bo/\aY aZ w to' m.t
theorem Bc.below{w w':World}{m:Mem}{cs:List Value}(h:Bc w m cs)(hb:Below w.heap.size w w'):Bc w' m cs:=by
 obtain⟨bo,bc,to',tc,h1,h2,h3⟩:=h;exact⟨bo,bc,to',tc,h1,h2.below hb,h3.below hb⟩
def uA(w:World)(ms:List Mem)(ao:Option Addr):Prop:=ms=[]\/∃ g off,ao=some ⟨g,off,none⟩/\g<w.heap.size/\∀ i m,ms[i]?=some m->∃ cs,Bc w m cs/\dD w g (off+i*3) cs
theorem uA.below{w w':World}{ms:List Mem}{ao:Option Addr}(h:uA w ms ao)(hb:Below w.heap.size w w'):uA w' ms ao:=by
 rcases h with h | ⟨g,off,h1,h2,h3⟩
 ·exact .inl h
 ·refine .inr ⟨g,off,h1,gR h2 hb.size,fun i m hm=>?_⟩
  obtain⟨cs,h4,h5⟩:=h3 i m hm;exact⟨cs,h4.below hb,h5.of_block (hb.block g h2)⟩
theorem uA.at{w:World}{ms:List Mem}{ao:Option Addr}(h:uA w ms ao)(i:Nat)(m:Mem)(hm:ms[i]?=some m):∃ g off cs,ao=some ⟨g,off,none⟩/\g<w.heap.size/\Bc w m cs/\dD w g (off+i*3) cs:=by
 rcases h with h | ⟨g,off,h1,h2,h3⟩
 ·rw[h] at hm;simp at hm
 ·obtain⟨cs,h4,h5⟩:=h3 i m hm
  exact⟨g,off,cs,h1,h2,h4,h5⟩
def mO(w:World)(c:Crw)(cs:List Value):Prop:=∃ qo qc mo mc uo uc,cs=[.slice qo c.qs.length qc,.slice mo c.ms.length mc,.slice uo c.us.length uc]/\tK w (fun _=>True) c.qs qo/\uA w c.ms mo/\aY cQ w uo c.us/\c.us.length<=uc
theorem mO.below{w w':World}{c:Crw}{cs:List Value}(h:mO w c cs)(hb:Below w.heap.size w w'):mO w' c cs:=by
 obtain⟨qo,qc,mo,mc,uo,uc,h1,h2,h3,h4,h5⟩:=h;exact⟨qo,qc,mo,mc,uo,uc,h1,h2.below hb,h3.below hb,h4.below hb,h5⟩
def inB(n lo hi:Int):Bool:=decide (lo<=n)&&decide (n<=hi)
theorem vQ(n lo hi:Int)(w:World):Calls Tryz.prog 83 #[.int .i64 n,.int .i64 lo,.int .i64 hi] w fun e w'=>e = .returned (.bool (inB n lo hi))/\w=w':=by
 unfold inB
 go_enter Tryz.func83,Tryz.ntmps83
 by_cases h1:lo<=n
 ·by_cases h2:n<=hi
  ·go_wp2
   go_ret;exact⟨aF (by simp[h1,h2]),rfl⟩
  ·go_wp2
   go_ret;exact⟨aF (by simp[show ¬ n<=hi by omega]),rfl⟩
 ·go_wp2
  go_ret;exact⟨aF (by simp[show ¬ lo<=n by omega]),rfl⟩
def nG(nq nm:Nat)(x:Use):Bool:=inB x.q 0 ((nq:Int)-1)&&inB x.w 0 15&&inB x.f 0 16&&inB x.h (-1) ((nm:Int)-1)
theorem EB(w:World)(qo mo uo:Option Addr)(nq nm nu qc mc uc:Nat)(x:Use)(h1:nq<=1000000000)(h2:nm<=1000000000) :
  Calls Tryz.prog 80 #[.agg #[.slice qo nq qc,.slice mo nm mc,.slice uo nu uc],.agg (cQ x).toArray] w fun e w'=>e = .returned (.bool (nG nq nm x))/\Below w.heap.size w w':=by
 unfold nG cQ;generalize x.q=x0 at *;generalize x.w=x1 at *;generalize x.f=x2 at *;generalize x.h=x3 at *;have H1:=I (fun W=>vQ x0 0 ((nq:Int)-1) W);have H2:=I (fun W=>vQ x1 0 15 W);have H3:=I (fun W=>vQ x2 0 16 W);have H4:=I (fun W=>vQ x3 (-1) ((nm:Int)-1) W);generalize inB x0 0 ((nq:Int)-1)=b1 at *;generalize inB x1 0 15=b2 at *;generalize inB x2 0 16=b3 at *;generalize inB x3 (-1) ((nm:Int)-1)=b4 at *;have bx:=(bwA w (.cells #[.slice qo nq qc,.slice mo nm mc,.slice uo nu uc] 26)).alloc (by simp) (.cells #[.int .i64 x0,.int .i64 x1,.int .i64 x2,.int .i64 x3] 39);have B1:=I bx;have C1:Hid (aC ((w.alloc (.cells #[.slice qo nq qc,.slice mo nm mc,.slice uo nu uc] 26)).alloc (.cells #[.int .i64 x0,.int .i64 x1,.int .i64 x2,.int .i64 x3] 39)) w.heap.size 26 [.slice qo nq qc,.slice mo nm mc,.slice uo nu uc]):=I (lr _ _ _);have X1:Hid (aC ((w.alloc (.cells #[.slice qo nq qc,.slice mo nm mc,.slice uo nu uc] 26)).alloc (.cells #[.int .i64 x0,.int .i64 x1,.int .i64 x2,.int .i64 x3] 39)) (w.heap.size+1) 39 [.int .i64 x0,.int .i64 x1,.int .i64 x2,.int .i64 x3]):=I (heap_alloc2_new _ _ _);clear bx;have e1:IntKind.i64.wrap ((nq:Int)-1)=(nq:Int)-1:=fU _ (by omega);have e2:IntKind.i64.wrap ((nm:Int)-1)=(nm:Int)-1:=fU _ (by omega)
 go_enter Tryz.func80,Tryz.ntmps80
 go_upto_region 1 with(fail)
 generalize hw:(w.alloc (.cells #[.slice qo nq qc,.slice mo nm mc,.slice uo nu uc] 26)).alloc (.cells #[.int .i64 x0,.int .i64 x1,.int .i64 x2,.int .i64 x3] 39)=w1 at *;clear hw;have c0:=C1.o.cell 0 _ rfl;have c1:=C1.o.cell 1 _ rfl;obtain⟨y0,y1,y2,y3⟩:=X1.o.c4
 go_wp2_with fail
 refine(H1.o w1).mono ?_;rintro e wa ⟨rfl,rfl⟩
 cases b1 with
 | false =>
  go_wp2_with fail
  go_ret;exact⟨aF (by simp),B1.o⟩
 | true =>
  go_wp2_with fail
  refine(H2.o w1).mono ?_;rintro e wa ⟨rfl,rfl⟩
  cases b2 with
  | false =>
   go_wp2_with fail
   go_ret;exact⟨aF (by simp),B1.o⟩
  | true =>
   go_wp2_with fail
   refine(H3.o w1).mono ?_;rintro e wa ⟨rfl,rfl⟩
   cases b3 with
   | false =>
    go_wp2_with fail
    go_ret;exact⟨aF (by simp),B1.o⟩
   | true =>
    go_wp2_with fail
    refine(H4.o w1).mono ?_;rintro e wa ⟨rfl,rfl⟩
    go_wp2_with fail
    go_ret;exact⟨aF (by simp),B1.o⟩
def eI(t:List Int)(w:Nat):Int:=t.getD w 0
theorem ni(w:World)(m:Mem)(cs:List Value)(hm:Bc w m cs)(k:Nat)(hk:k<=1000000)(hl:m.t.length<=100000000000000) :
  Calls Tryz.prog 121 #[.agg cs.toArray,.int .i64 k] w fun e w'=>e = .returned (.int .i64 (eI m.t k))/\Below w.heap.size w w':=by
 obtain⟨bo,bc,to',tc,rfl,-,ht⟩:=hm;have HT:=I ht;unfold eI;have bx:=bwA w (.cells #[.slice bo m.b.length bc,.slice to' m.t.length tc,.int .i64 m.r] 44);have B1:=I bx;have X1:=hnw w 44 [.slice bo m.b.length bc,.slice to' m.t.length tc,.int .i64 m.r];have H1:=I (HT.o.below bx);clear bx ht HT;generalize m.b.length=nb at *;generalize m.r=mr at *;generalize m.t=tl at *
 go_enter Tryz.func121,Tryz.ntmps121
 go_upto_region 1 with(fail)
 generalize w.alloc (.cells #[.slice bo nb bc,.slice to' tl.length tc,.int .i64 mr] 44)=w1 at *;have x1:=X1.o.cell 1 _ rfl;by_cases aE:k<tl.length
 ·have kk:(k:Int)<(tl.length:Nat):=by omega
  obtain⟨g,off,bI,hg,hc⟩:=H1.o.at jN k tl[k] (aL aE);have c0:=hc 0 _ rfl;rw[Nat.mul_one,Nat.add_zero] at c0;have HV:Hid (tl.getD k 0=tl[k]):=I (by rw[bR,aL aE];rfl);generalize tl[k]=tk at *;generalize tl.length=tn at *;clear hc hg;subst bI
  go_wp2_with fail
  go_ret;exact⟨mI HV.o.symm,B1.o⟩
 ·have kk:¬ (k:Int)<(tl.length:Nat):=by omega
  have HV:Hid (tl.getD k 0=0):=I (by rw[bR,List.getElem?_eq_none (by omega)];rfl);generalize tl.length=tn at *
  go_wp2_with fail
  go_ret;exact⟨mI HV.o.symm,B1.o⟩
end
section
open Go.RowKit Go.Sort
def wY{α:Type}(f:α->Bool)(ks:List α):Int:=match ks.findIdx? f with
 | some i=>(i:Int)
 | none=>-1
theorem EC{α:Type}(f:α->Bool)(ks:List α):decide (0<=wY f ks)=ks.any f:=by
 unfold wY
 cases h:ks.findIdx? f with
 | none =>
  rw[List.findIdx?_eq_none_iff] at h
  have:ks.any f=false:=by rw[List.any_eq_false];intro x hx;simp[h x hx]
  rw[this];rfl
 | some i =>
  rw[List.findIdx?_eq_some_iff_getElem] at h;obtain⟨h1,h2,_⟩:=h;have:ks.any f=true:=List.any_eq_true.2 ⟨_,List.getElem_mem h1,h2⟩;rw[this];show decide (0<=(i:Int))=true;exact decide_eq_true (by omega)
structure memFn (C:World->Prop) (g:Nat) (cb:Array Value) (f:Mem->Bool) (S:Mem->Prop):Prop where
 enters:∀ args w,(callFunc g args).run Tryz.prog w = .ok (.enter g args) w
 step:∀ w w',C w->Below w.heap.size w w'->C w'
 calls:∀ q w cs,S q->Bc w q cs->C w->Calls Tryz.prog g (#[.agg cs.toArray]++cb) w fun e w'=>e = .returned (.bool (f q))/\Below w.heap.size w w'
theorem Ztk (w:World) (ks:List Mem) (ao:Option Addr) (n cap:Nat) (hn:n=ks.length) (bN:n<=1000000) (hk:uA w ks ao)
  (C:World->Prop) (g:Nat) (cb:Array Value) (f:Mem->Bool) (S:Mem->Prop) (hf:memFn C g cb f S) (hS:∀ q∈ks,S q) (hC:C w) :
  Calls Tryz.prog 138 #[.slice ao n cap,.func (.func g) #[] cb] w fun e w'=>e = .returned (.int .i64 (wY f ks))/\Below w.heap.size w w':=by
 have HK:=I hk;have HN:=I hn;have HS:=I hS;have bQ:=I hf.step;have yW:=I hf.calls;have eg:=hf.enters;have HI:Hid (wY f ks=match ks.findIdx? f with | some i=>(i:Int) | none=>-1):=I rfl;obtain⟨V,hV⟩:=exq (wY f ks);rw[hV] at HI ⊢;have C0:=I hC;have B0:=I (aG w.heap.size w);clear hk hn hS hC hf hV
 go_enter Tryz.func138,Tryz.ntmps138
 go_wp2_with fail
 go_loopw [8] (fun cc wr=>∃ (i:Nat),cc = .int .i64 i/\i<=n/\Hid (Below w.heap.size w wr)/\Hid (C wr)/\Hid (∀ j k,j<i->ks[j]?=some k->f k=false)) (fun c _=>(n-intOf c).toNat)
 case atStart=>exact⟨0,rfl,by omega,B0,C0,I (fun j k hj=>absurd hj (jU j))⟩
 case round =>
  clear B0 C0;obtain⟨i,rfl,hi,hw,hc,nK⟩:=hrel;have e2:=w1i i (by omega);by_cases aE:i<n
  ·have ii:(i:Int)<n:=by omega
   obtain⟨q,hq⟩:∃ q,ks[i]?=some q:=⟨_,aL (by rw[<- HN.o];exact aE)⟩;have gZ:=I hq;obtain⟨gk,off,cs,bI,dT,dX,aH⟩:=(HK.o.below hw.o).at i q hq;obtain⟨bo,bc,to',tc,rfl,yR,kN⟩:=dX;have yY:Hid (Bc wr q [.slice bo q.b.length bc,.slice to' q.t.length tc,.int .i64 q.r]):=I ⟨bo,bc,to',tc,rfl,yR,kN⟩;clear yR kN dT;have s0:=aH 0 _ rfl;have s1:=aH 1 _ rfl;have s2:=aH 2 _ rfl;rw[Nat.add_zero] at s0;have mT:=I bI;clear aH hq;subst bI
   go_wp2_with fail
   refine(yW.o q wr _ (HS.o q (bU gZ.o)) yY.o hc.o).mono ?_;rintro e w3 ⟨rfl,b3⟩;have kA:=hw.tr b3;have qE:=I (bQ.o _ _ hc.o b3);clear b3 s0 s1 s2 hw hc
   cases hq:f q with
   | true =>
    have HX:Hid (V=(i:Int)):=I (by
     have nV:i<ks.length:=by rw[<- HN.o];exact aE
     have:ks.findIdx? f=some i:=by
      rw[List.findIdx?_eq_some_iff_getElem];refine⟨nV,?_,fun j hj=>?_⟩
      ·have:ks[i]=q:=by have:=gZ.o;rw[aL nV] at this;exact bF this
       rw[this];exact hq
      ·have:=nK.o j ks[j] hj (aL (by omega))
       simp[this]
     rw[HI.o,this])
    clear hq
    go_wp2
    go_ret;exact⟨mI HX.o.symm,kA.o⟩
   | false =>
    have Bu:=I hq;clear hq
    go_wp2
    go_roundw
    case rel=>exact⟨i+1,by go_num,by omega,kA,qE,I (fun j k' hj kZ=>by
     rcases gQ j i with h | h
     ·exact nK.o j k' h kZ
     ·obtain rfl:j=i:=by omega
      rw[gZ.o] at kZ;obtain rfl:=bF kZ
      exact Bu.o)⟩
    case measure=>simp only[intOf];omega
  ·have ii:¬ ((i:Int)<n):=by omega
   have HX:Hid (V = -1):=I (by
    have:ks.findIdx? f=none:=by
     rw[List.findIdx?_eq_none_iff];intro k hk;obtain⟨j,hj⟩:=pV.1 hk;have pF:=(fD.1 hj).1;exact nK.o j k (by rw[<- HN.o] at pF;omega) hj
    rw[HI.o,this])
   go_wp2
   go_ret;exact⟨mI HX.o.symm,hw.o⟩
theorem Zqb (w:World) (ks:List Mem) (ao:Option Addr) (n cap:Nat) (hn:n=ks.length) (bN:n<=1000000) (hk:uA w ks ao)
  (C:World->Prop) (g:Nat) (cb:Array Value) (f:Mem->Bool) (S:Mem->Prop) (hf:memFn C g cb f S) (hS:∀ q∈ks,S q) (hC:C w) :
  Calls Tryz.prog 75 #[.slice ao n cap,.func (.func g) #[] cb] w fun e w'=>e = .returned (.bool (ks.any f))/\Below w.heap.size w w':=by
 have HC:=I (Ztk w ks ao n cap hn bN hk C g cb f S hf hS hC);have HV:=I (EC f ks);generalize wY f ks=x at *;generalize ks.any f=V at *;clear hk hf hS hC hn
 go_enter Tryz.func75,Tryz.ntmps75
 go_wp2_with fail
 refine HC.o.mono ?_;rintro e w3 ⟨rfl,b3⟩;have B3:=I b3;clear b3
 go_wp2
 go_ret;exact⟨aF (by rw[<- HV.o]),B3.o⟩
structure useFn (C:World->Prop) (g:Nat) (cb:Array Value) (f:Use->Bool) (S:Use->Prop):Prop where
 enters:∀ args w,(callFunc g args).run Tryz.prog w = .ok (.enter g args) w
 step:∀ w w',C w->Below w.heap.size w w'->C w'
 calls:∀ q w cs,S q->cs=cQ q->C w->Calls Tryz.prog g (#[.agg cs.toArray]++cb) w fun e w'=>e = .returned (.bool (f q))/\Below w.heap.size w w'
theorem Ztl (w:World) (ks:List Use) (ao:Option Addr) (n cap:Nat) (hn:n=ks.length) (bN:n<=1000000) (hk:aY cQ w ao ks)
  (C:World->Prop) (g:Nat) (cb:Array Value) (f:Use->Bool) (S:Use->Prop) (hf:useFn C g cb f S) (hS:∀ q∈ks,S q) (hC:C w) :
  Calls Tryz.prog 140 #[.slice ao n cap,.func (.func g) #[] cb] w fun e w'=>e = .returned (.int .i64 (wY f ks))/\Below w.heap.size w w':=by
 have HK:=I hk;have HN:=I hn;have HS:=I hS;have bQ:=I hf.step;have yW:=I hf.calls;have eg:=hf.enters;have HI:Hid (wY f ks=match ks.findIdx? f with | some i=>(i:Int) | none=>-1):=I rfl;obtain⟨V,hV⟩:=exq (wY f ks);rw[hV] at HI ⊢;have C0:=I hC;have B0:=I (aG w.heap.size w);clear hk hn hS hC hf hV
 go_enter Tryz.func140,Tryz.ntmps140
 go_wp2_with fail
 go_loopw [8] (fun cc wr=>∃ (i:Nat),cc = .int .i64 i/\i<=n/\Hid (Below w.heap.size w wr)/\Hid (C wr)/\Hid (∀ j k,j<i->ks[j]?=some k->f k=false)) (fun c _=>(n-intOf c).toNat)
 case atStart=>exact⟨0,rfl,by omega,B0,C0,I (fun j k hj=>absurd hj (jU j))⟩
 case round =>
  clear B0 C0;obtain⟨i,rfl,hi,hw,hc,nK⟩:=hrel;have e2:=w1i i (by omega);by_cases aE:i<n
  ·have ii:(i:Int)<n:=by omega
   obtain⟨q,hq⟩:∃ q,ks[i]?=some q:=⟨_,aL (by rw[<- HN.o];exact aE)⟩;have gZ:=I hq;obtain⟨gk,off,bI,dT,eK⟩:=(HK.o.below hw.o).at mN i q hq
   have aH:dD wr gk (off+i*4) [.int .i64 q.q,.int .i64 q.w,.int .i64 q.f,.int .i64 q.h]:=fun j u hj=>eK j u hj
   clear eK dT;have s0:=aH 0 _ rfl;have s1:=aH 1 _ rfl;have s2:=aH 2 _ rfl;have s3:=aH 3 _ rfl;rw[Nat.add_zero] at s0;have mT:=I bI;clear aH hq;subst bI
   go_wp2_with fail
   refine(yW.o q wr _ (HS.o q (bU gZ.o)) rfl hc.o).mono ?_;rintro e w3 ⟨rfl,b3⟩;have kA:=hw.tr b3;have qE:=I (bQ.o _ _ hc.o b3);clear b3 s0 s1 s2 s3 hw hc
   cases hq:f q with
   | true =>
    have HX:Hid (V=(i:Int)):=I (by
     have nV:i<ks.length:=by rw[<- HN.o];exact aE
     have:ks.findIdx? f=some i:=by
      rw[List.findIdx?_eq_some_iff_getElem];refine⟨nV,?_,fun j hj=>?_⟩
      ·have:ks[i]=q:=by have:=gZ.o;rw[aL nV] at this;exact bF this
       rw[this];exact hq
      ·have:=nK.o j ks[j] hj (aL (by omega))
       simp[this]
     rw[HI.o,this])
    clear hq
    go_wp2
    go_ret;exact⟨mI HX.o.symm,kA.o⟩
   | false =>
    have Bu:=I hq;clear hq
    go_wp2
    go_roundw
    case rel=>exact⟨i+1,by go_num,by omega,kA,qE,I (fun j k' hj kZ=>by
     rcases gQ j i with h | h
     ·exact nK.o j k' h kZ
     ·obtain rfl:j=i:=by omega
      rw[gZ.o] at kZ;obtain rfl:=bF kZ
      exact Bu.o)⟩
    case measure=>simp only[intOf];omega
  ·have ii:¬ ((i:Int)<n):=by omega
   have HX:Hid (V = -1):=I (by
    have:ks.findIdx? f=none:=by
     rw[List.findIdx?_eq_none_iff];intro k hk;obtain⟨j,hj⟩:=pV.1 hk;have pF:=(fD.1 hj).1;exact nK.o j k (by rw[<- HN.o] at pF;omega) hj
    rw[HI.o,this])
   go_wp2
   go_ret;exact⟨mI HX.o.symm,hw.o⟩
theorem Zqc (w:World) (ks:List Use) (ao:Option Addr) (n cap:Nat) (hn:n=ks.length) (bN:n<=1000000) (hk:aY cQ w ao ks)
  (C:World->Prop) (g:Nat) (cb:Array Value) (f:Use->Bool) (S:Use->Prop) (hf:useFn C g cb f S) (hS:∀ q∈ks,S q) (hC:C w) :
  Calls Tryz.prog 78 #[.slice ao n cap,.func (.func g) #[] cb] w fun e w'=>e = .returned (.bool (ks.any f))/\Below w.heap.size w w':=by
 have HC:=I (Ztl w ks ao n cap hn bN hk C g cb f S hf hS hC);have HV:=I (EC f ks);generalize wY f ks=x at *;generalize ks.any f=V at *;clear hk hf hS hC hn
 go_enter Tryz.func78,Tryz.ntmps78
 go_wp2_with fail
 refine HC.o.mono ?_;rintro e w3 ⟨rfl,b3⟩;have B3:=I b3;clear b3
 go_wp2
 go_ret;exact⟨aF (by rw[<- HV.o]),B3.o⟩
end
section
open Go.RowKit Go.Shelf Go.Sort
def lO(b:Bool):List Value:=[.bool b]
end
section
open Go.RowKit Go.Sort
structure SpcR (w:World) (ns:List (List Nat)) (ao:Option Addr) (n:Nat):Prop where
 cnt:n=ns.length
 strs:pW w ao ns
 byts:∀ s∈ns,NmB s
 asc:Z5c ns
 big:n<=100
structure TruB (X Y D:Nat) (ns:List (List Nat)) (ao:Option Addr) (n cp:Nat) (most:Int) (c2 c3:Value) (vo:Option Addr) (vc:Nat) (v:List Int) (w:World):Prop where
 bx:aC w X 191 [.pointer (some ⟨D,0,none⟩)]
 bd:aC w D 218 [.slice ao n cp,.int .i64 most,c2,c3]
 bv:aC w Y 33 [.slice vo v.length vc]
 vals:aY aZ w vo v
 spc:SpcR w ns ao n
theorem Zwd(i:Nat)(h:i<7):i=0\/i=1\/i=2\/i=3\/i=4\/i=5\/i=6:=by omega
end
section
open Go.RowKit Go.Sort
theorem Ztm(i:Nat)(h:i<17):i=0\/i=1\/i=2\/i=3\/i=4\/i=5\/i=6\/i=7\/i=8\/i=9\/i=10\/i=11\/i=12\/i=13\/i=14\/i=15\/i=16:=by omega
end
section
open Go.RowKit Go.Sort Go.Maps
theorem aC.readsR{w:World}{g:Nat}{t:TypeId}{vs:List Value}(h:aC w g t vs):dD w g 0 vs:=fun j u hj=>by rw[Nat.zero_add];exact h.cell j u hj
theorem Su(b:Bool):(lO b).length=1:=rfl
theorem aY.bool{w:World}{bo:Option Addr}{l:List Bool}(h:aY lO w bo l)(i:Nat)(hi:i<l.length):∃ g off,bo=some ⟨g,off,none⟩/\w.cell? ⟨g,off+i,none⟩=some (.bool (l.getD i false)):=by
 obtain⟨g,off,h1,h2,h3⟩:=h.at Su i l[i] (aL hi);refine⟨g,off,h1,?_⟩;have:=h3 0 _ rfl;rw[Nat.mul_one,Nat.add_zero] at this;rw[this,bR,aL hi];rfl
end
section
open Go.RowKit Go.Shelf Go.Sort
theorem aC.addr{w:World}{g:Nat}{t:TypeId}{vs:List Value}(h:aC w g t vs)(j:Nat)(u:Value)(hj:vs[j]?=some u):w.cell? ((⟨g,0,none⟩:Addr).add j)=some u:=by
 rw[Addr.add_lit,Nat.zero_add];exact h.cell j u hj
theorem OwnK.sortI{w:World}{B n cap g off m:Nat}{l:List Int}{d:List Int}{os:Array Obj}(h:OwnK w B 1 n cap (l.flatMap aZ) (some ⟨g,off,none⟩))(hd:d.length=l.length) :
  OwnK (grow (putRow (Value.int .i64) (Sort.ahead w m) g off d.toArray) os) B 1 n cap (d.flatMap aZ) (some ⟨g,off,none⟩)/\Only w (grow (putRow (Value.int .i64) (Sort.ahead w m) g off d.toArray) os) (· = g)/\Holds (Value.int .i64) w g off l.toArray:=by
 have aQ:=h.count
 have fX:l.length=n:=by rw[Fi aZ 1 jN,Nat.mul_one,Nat.mul_one] at aQ;exact aQ
 cases h with
 | «at» g off h h1 h2 h3 =>
  have aE:=h.lt;have qB:=h.le;rw[Nat.mul_one,h1,Nat.mul_one] at qB
  have hH:Holds (Value.int .i64) w g off l.toArray:=by
   intro j hj;rw[List.size_toArray] at hj;refine⟨?_,h.warm j (by omega)⟩;rw[h.cells j (.int .i64 l.toArray[j]!) (by rw[<- Nv,ivs,dK,aL hj,getElem!_pos l.toArray j (by simpa using hj)];simp)]
  have hH2:Holds (Value.int .i64) (grow (putRow (Value.int .i64) (Sort.ahead w m) g off d.toArray) os) g off d.toArray:=holds_sortWorld (Value.int .i64) w g off m l.toArray d.toArray os aE hH (by simpa using hd)
  have iK:w.heap.size<=(grow (putRow (Value.int .i64) (Sort.ahead w m) g off d.toArray) os).heap.size:=by
   rw[show grow (putRow (Value.int .i64) (Sort.ahead w m) g off d.toArray) os=sortWorld (Value.int .i64) w g off m d.toArray os from rfl];unfold sortWorld grow;simp[Sort.ahead]
  have hg:∀ a:Addr,a.block<w.heap.size->(grow (putRow (Value.int .i64) (Sort.ahead w m) g off d.toArray) os).cell? a=(putRow (Value.int .i64) (Sort.ahead w m) g off d.toArray).cell? a:=fun a ha =>
   rJ (heap_grow_old _ _ (by rw[Sort.size_putRow];exact ha))
  have ri:∀ a:Addr,a.block<w.heap.size->(grow (putRow (Value.int .i64) (Sort.ahead w m) g off d.toArray) os).frozen? a=(putRow (Value.int .i64) (Sort.ahead w m) g off d.toArray).frozen? a:=fun a ha =>
   World.frozen?_of_block (heap_grow_old _ _ (by rw[Sort.size_putRow];exact ha))
  have jZ:(d.flatMap aZ).length=n*1:=by rw[Fi aZ 1 jN,hd,fX]
  refine⟨.at g off ⟨h.own,gR aE iK,by rw[jZ];exact Nat.mul_le_mul_right 1 h3,fun j u hj=>?_,fun j hj=>?_,fun j hj=>?_⟩ jZ h2 h3,?_,hH⟩
  ·rw[<- Nv,ivs,dK] at hj
   obtain⟨x,hx,rfl⟩:=Option.map_eq_some_iff.1 hj;have pF:=(fD.1 hx).1;rw[(hH2 j (by simpa using pF)).1,getElem!_pos d.toArray j (by simpa using pF)];simp[(fD.1 hx).2]
  ·by_cases nJ:j<d.length
   ·rw[(hH2 j (by simpa using nJ)).1];rfl
   ·rw[hg _ aE,Sort.cell?_putRow_other _ _ _ _ _ _ (.inr (.inr (by rw[List.size_toArray];show off+d.length<=off+j;omega)))]
    exact h.room j hj
  ·rw[ri _ aE,Sort.frozen?_putRow]
   exact h.warm j hj
  ·refine⟨rfl,rfl,rfl,iK,fun i hi cT=>?_⟩
   have e1:(grow (putRow (Value.int .i64) (Sort.ahead w m) g off d.toArray) os).heap[i]?=(putRow (Value.int .i64) (Sort.ahead w m) g off d.toArray).heap[i]?:=heap_grow_old _ _ (by rw[Sort.size_putRow];exact hi);rw[e1];show(w.heap.modify g _)[i]?=_;rw[Array.getElem?_modify,if_neg (fun e=>cT e.symm)]
theorem Zwe(w:World)(B n cap g off:Nat)(l:List Int)(hn:n=l.length)(hO:OwnK w B 1 n cap (l.flatMap aZ) (some ⟨g,off,none⟩))(bN:n<=1000000) :
  Calls Tryz.prog 169 #[.slice (some ⟨g,off,none⟩) n cap] w fun e w'=>e = .returned (.tuple #[])/\OwnK w' B 1 n cap ((l.mergeSort leI).flatMap aZ) (some ⟨g,off,none⟩)/\Only w w' (· = g):=by
 have aE:g<w.heap.size:=(hO.blk_lt rfl).2;have hH:=(OwnK.sortI (m:=0) (os:=#[]) hO (d:=l) rfl).2.2;rw[hn];refine(Tryz.slices_Sort_int g off cap l w hH aE (by omega)).mono ?_;rintro e w' ⟨rfl,m,os,rfl⟩;obtain⟨h1,h2,-⟩:=OwnK.sortI (m:=m) (os:=os) hO (d:=l.mergeSort leI) (List.length_mergeSort ..);exact⟨rfl,by rw[<- hn];exact h1,h2⟩
where flatMap_le1 {α:Type} (f:α->List Int) (h:∀ x,(f x).length<=1):∀ l:List α,(l.flatMap f).length<=l.length
 | []=>by simp
 | x::xs=>by
  rw[List.flatMap_cons,gL,List.length_cons];have h1:=h x;have h2:=flatMap_le1 f h xs;omega
end
section
open Go.RowKit Go.Sort
theorem VX(i:Nat)(h:i<11):i=0\/i=1\/i=2\/i=3\/i=4\/i=5\/i=6\/i=7\/i=8\/i=9\/i=10:=by omega
theorem en(i:Nat)(h:i<10):i=0\/i=1\/i=2\/i=3\/i=4\/i=5\/i=6\/i=7\/i=8\/i=9:=by omega
end
section
open Go.RowKit Go.Sort
theorem ED(i:Nat)(h:i<9):i=0\/i=1\/i=2\/i=3\/i=4\/i=5\/i=6\/i=7\/i=8:=by omega
end
section
open Go.RowKit Go.Sort Go.Maps
theorem nj(i:Nat)(h:i<14):i=0\/i=1\/i=2\/i=3\/i=4\/i=5\/i=6\/i=7\/i=8\/i=9\/i=10\/i=11\/i=12\/i=13:=by omega
end
end Go.Proofs.YtbcgocpihobjnaaGreatDoor
