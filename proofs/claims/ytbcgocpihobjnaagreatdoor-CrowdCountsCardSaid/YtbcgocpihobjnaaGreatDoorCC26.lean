import Derived.Deep.CutBlock
import Derived.Deep.DeepCutAuto
import Derived.Deep.OwnRows
import Derived.Test.YtbcgocpihobjnaaGreatDoorCC25
import Derived.Test.YtbcgocpihobjnaaGreatDoorCC24
import Derived.Test.YtbcgocpihobjnaaGreatDoorCC23
import Derived.Test.YtbcgocpihobjnaaGreatDoorCC0
import Derived.Maps.OwnSet
import Derived.Shelf.SlSortCmp.NoneTotal
import Derived.Test.YtbcgocpihobjnaaGreatDoorCC22
import Derived.Test.YtbcgocpihobjnaaGreatDoorShelf
import Derived.Test.YtbcgocpihobjnaaGreatDoorCC11
import Derived.Test.YtbcgocpihobjnaaGreatDoorCC13
import Derived.ArgAppend
import Derived.Test.YtbcgocpihobjnaaGreatDoorCC21
import Derived.Test.YtbcgocpihobjnaaGreatDoorCC16
set_option linter.all false
set_option maxHeartbeats 4000000
set_option maxRecDepth 100000
namespace Go.Proofs.YtbcgocpihobjnaaGreatDoor
section
open Go.RowKit Go.Sort
def ivs(l:List Int):List Value:=l.map (Value.int .i64)
theorem Zov(x:Int)(N:Nat):madeCells #[Value.int .i64 x] N=(ivs (List.replicate N x)).toArray:=by
 unfold ivs;apply Array.ext
 ·simp[madeCells]
 ·intro i h1 h2
  simp[madeCells,Nat.mod_one]
end
section
open Go.RowKit Go.Sort
def Zbg(x:Int):List Value:=[.int .i64 x]
theorem Zed:∀ l:List Int,ivs l=l.flatMap Zbg
 | []=>rfl
 | x::l=>by show _::ivs l=_;rw[Zed l];rfl
theorem Zaz(x:Int):(Zbg x).length=1:=rfl
end
section
open Go.RowKit Go.Sort
theorem Zfu.below{w w':World}{P:Nat->Prop}{l:List Prd}{ao:Option Addr}(h:Zfu w P l ao)(hb:Below w.heap.size w w'):Zfu w' P l ao:=by
 rcases h with h | ⟨g,off,h1,h2,h3,h4⟩
 ·exact .inl h
 ·exact .inr ⟨g,off,h1,h2,đm h3 hb.size,Zbe.keep (fun g _ hg=>hb.block g hg) hb.size (fun g hg _=>hg) l g off h2 h3 h4⟩
theorem Zfu.at{w:World}{P:Nat->Prop}{l:List Prd}{ao:Option Addr}(h:Zfu w P l ao)(i:Nat)(p:Prd)(hp:l[i]?=some p):∃ g off vs,ao=some ⟨g,off,none⟩/\g<w.heap.size/\Zao w P p vs/\Zav w g (off+i*5) vs:=by
 rcases h with h | ⟨g,off,h1,h2,h3,h4⟩
 ·rw[h] at hp;simp at hp
 ·obtain⟨vs,hv1,hv2⟩:=Zbe.at l g off i p hp h4
  exact⟨g,off,vs,h1,h3,hv1,hv2⟩
end
section
open Go.RowKit Go.Sort
structure Mem where
 b:List Bnd
 t:List Int
 r:Int
structure Use where
 q:Int
 w:Int
 f:Int
 h:Int
structure Crw where
 qs:List Prd
 ms:List Mem
 us:List Use
def Zcg(x:Use):List Value:=[.int .i64 x.q,.int .i64 x.w,.int .i64 x.f,.int .i64 x.h]
theorem Zbj(x:Use):(Zcg x).length=4:=rfl
def Zur(w:World)(m:Mem)(cs:List Value):Prop:=∃ bo bc to' tc,cs=[.slice bo m.b.length bc,.slice to' m.t.length tc,.int .i64 m.r]/\Zoq w (fun _=>True) m.b bo/\Zan Zbg w to' m.t
theorem Zur.below{w w':World}{m:Mem}{cs:List Value}(h:Zur w m cs)(hb:Below w.heap.size w w'):Zur w' m cs:=by
 obtain⟨bo,bc,to',tc,h1,h2,h3⟩:=h;exact⟨bo,bc,to',tc,h1,h2.below hb,h3.below hb⟩
def Zhr(w:World)(ms:List Mem)(ao:Option Addr):Prop:=ms=[]\/∃ g off,ao=some ⟨g,off,none⟩/\g<w.heap.size/\∀ i m,ms[i]?=some m->∃ cs,Zur w m cs/\Zav w g (off+i*3) cs
theorem Zhr.below{w w':World}{ms:List Mem}{ao:Option Addr}(h:Zhr w ms ao)(hb:Below w.heap.size w w'):Zhr w' ms ao:=by
 rcases h with h | ⟨g,off,h1,h2,h3⟩
 ·exact .inl h
 ·refine .inr ⟨g,off,h1,đm h2 hb.size,fun i m hm=>?_⟩
  obtain⟨cs,h4,h5⟩:=h3 i m hm;exact⟨cs,h4.below hb,h5.of_block (hb.block g h2)⟩
theorem Zhr.at{w:World}{ms:List Mem}{ao:Option Addr}(h:Zhr w ms ao)(i:Nat)(m:Mem)(hm:ms[i]?=some m):∃ g off cs,ao=some ⟨g,off,none⟩/\g<w.heap.size/\Zur w m cs/\Zav w g (off+i*3) cs:=by
 rcases h with h | ⟨g,off,h1,h2,h3⟩
 ·rw[h] at hm;simp at hm
 ·obtain⟨cs,h4,h5⟩:=h3 i m hm
  exact⟨g,off,cs,h1,h2,h4,h5⟩
def Zhs(w:World)(c:Crw)(cs:List Value):Prop:=∃ qo qc mo mc uo uc,cs=[.slice qo c.qs.length qc,.slice mo c.ms.length mc,.slice uo c.us.length uc]/\Zfu w (fun _=>True) c.qs qo/\Zhr w c.ms mo/\Zan Zcg w uo c.us/\c.us.length<=uc
theorem Zhs.below{w w':World}{c:Crw}{cs:List Value}(h:Zhs w c cs)(hb:Below w.heap.size w w'):Zhs w' c cs:=by
 obtain⟨qo,qc,mo,mc,uo,uc,h1,h2,h3,h4,h5⟩:=h;exact⟨qo,qc,mo,mc,uo,uc,h1,h2.below hb,h3.below hb,h4.below hb,h5⟩
def inB(n lo hi:Int):Bool:=decide (lo<=n)&&decide (n<=hi)
theorem Zbn(n lo hi:Int)(w:World):Calls Tryz.prog 83 #[.int .i64 n,.int .i64 lo,.int .i64 hi] w fun e w'=>e = .returned (.bool (inB n lo hi))/\w=w':=by
 unfold inB
 go_enter Tryz.func83,Tryz.ntmps83
 by_cases h1:lo<=n
 ·by_cases h2:n<=hi
  ·go_wp2
   go_ret;exact⟨Zac (by simp[h1,h2]),rfl⟩
  ·go_wp2
   go_ret;exact⟨Zac (by simp[show ¬ n<=hi by omega]),rfl⟩
 ·go_wp2
  go_ret;exact⟨Zac (by simp[show ¬ lo<=n by omega]),rfl⟩
def Zch(nq nm:Nat)(x:Use):Bool:=inB x.q 0 ((nq:Int)-1)&&inB x.w 0 15&&inB x.f 0 16&&inB x.h (-1) ((nm:Int)-1)
theorem Zlz(w:World)(qo mo uo:Option Addr)(nq nm nu qc mc uc:Nat)(x:Use)(h1:nq<=1000000000)(h2:nm<=1000000000) :
  Calls Tryz.prog 80 #[.agg #[.slice qo nq qc,.slice mo nm mc,.slice uo nu uc],.agg (Zcg x).toArray] w fun e w'=>e = .returned (.bool (Zch nq nm x))/\Below w.heap.size w w':=by
 unfold Zch Zcg;generalize x.q=x0 at *;generalize x.w=x1 at *;generalize x.f=x2 at *;generalize x.h=x3 at *;have H1:=ħ (fun W=>Zbn x0 0 ((nq:Int)-1) W);have H2:=ħ (fun W=>Zbn x1 0 15 W);have H3:=ħ (fun W=>Zbn x2 0 16 W);have H4:=ħ (fun W=>Zbn x3 (-1) ((nm:Int)-1) W);generalize inB x0 0 ((nq:Int)-1)=b1 at *;generalize inB x1 0 15=b2 at *;generalize inB x2 0 16=b3 at *;generalize inB x3 (-1) ((nm:Int)-1)=b4 at *;have bx:=((đc w.heap.size w).alloc (đd _) (.cells #[.slice qo nq qc,.slice mo nm mc,.slice uo nu uc] 26)).alloc (by simp) (.cells #[.int .i64 x0,.int .i64 x1,.int .i64 x2,.int .i64 x3] 39);have B1:=ħ bx;have C1:Hid (Zae ((w.alloc (.cells #[.slice qo nq qc,.slice mo nm mc,.slice uo nu uc] 26)).alloc (.cells #[.int .i64 x0,.int .i64 x1,.int .i64 x2,.int .i64 x3] 39)) w.heap.size 26 [.slice qo nq qc,.slice mo nm mc,.slice uo nu uc]):=ħ (Zc0 _ _ _);have X1:Hid (Zae ((w.alloc (.cells #[.slice qo nq qc,.slice mo nm mc,.slice uo nu uc] 26)).alloc (.cells #[.int .i64 x0,.int .i64 x1,.int .i64 x2,.int .i64 x3] 39)) (w.heap.size+1) 39 [.int .i64 x0,.int .i64 x1,.int .i64 x2,.int .i64 x3]):=ħ (heap_alloc2_new _ _ _);clear bx;have e1:IntKind.i64.wrap ((nq:Int)-1)=(nq:Int)-1:=đh _ (by omega);have e2:IntKind.i64.wrap ((nm:Int)-1)=(nm:Int)-1:=đh _ (by omega)
 go_enter Tryz.func80,Tryz.ntmps80
 go_upto_region 1 with(fail)
 generalize hw:(w.alloc (.cells #[.slice qo nq qc,.slice mo nm mc,.slice uo nu uc] 26)).alloc (.cells #[.int .i64 x0,.int .i64 x1,.int .i64 x2,.int .i64 x3] 39)=w1 at *;clear hw;have c0:=C1.o.cell 0 _ rfl;have c1:=C1.o.cell 1 _ rfl;have y0:=X1.o.cell 0 _ rfl;have y1:=X1.o.cell 1 _ rfl;have y2:=X1.o.cell 2 _ rfl;have y3:=X1.o.cell 3 _ rfl
 go_wp2_with fail
 refine(H1.o w1).mono ?_;rintro e wa ⟨rfl,rfl⟩
 cases b1 with
 | false =>
  go_wp2_with fail
  go_ret;exact⟨Zac (by simp),B1.o⟩
 | true =>
  go_wp2_with fail
  refine(H2.o w1).mono ?_;rintro e wa ⟨rfl,rfl⟩
  cases b2 with
  | false =>
   go_wp2_with fail
   go_ret;exact⟨Zac (by simp),B1.o⟩
  | true =>
   go_wp2_with fail
   refine(H3.o w1).mono ?_;rintro e wa ⟨rfl,rfl⟩
   cases b3 with
   | false =>
    go_wp2_with fail
    go_ret;exact⟨Zac (by simp),B1.o⟩
   | true =>
    go_wp2_with fail
    refine(H4.o w1).mono ?_;rintro e wa ⟨rfl,rfl⟩
    go_wp2_with fail
    go_ret;exact⟨Zac (by simp),B1.o⟩
def Zcd(t:List Int)(w:Nat):Int:=t.getD w 0
theorem Zgh(w:World)(m:Mem)(cs:List Value)(hm:Zur w m cs)(k:Nat)(hk:k<=1000000)(hl:m.t.length<=100000000000000) :
  Calls Tryz.prog 121 #[.agg cs.toArray,.int .i64 k] w fun e w'=>e = .returned (.int .i64 (Zcd m.t k))/\Below w.heap.size w w':=by
 obtain⟨bo,bc,to',tc,rfl,-,ht⟩:=hm;have HT:=ħ ht;unfold Zcd;have bx:=(đc w.heap.size w).alloc (đd _) (.cells #[.slice bo m.b.length bc,.slice to' m.t.length tc,.int .i64 m.r] 44);have B1:=ħ bx;have X1:Hid (Zae (w.alloc (.cells #[.slice bo m.b.length bc,.slice to' m.t.length tc,.int .i64 m.r] 44)) w.heap.size 44 [.slice bo m.b.length bc,.slice to' m.t.length tc,.int .i64 m.r]):=ħ (heap_alloc_new w _);have H1:=ħ (HT.o.below bx);clear bx ht HT;generalize m.b.length=nb at *;generalize m.r=mr at *;generalize m.t=tl at *
 go_enter Tryz.func121,Tryz.ntmps121
 go_upto_region 1 with(fail)
 generalize w.alloc (.cells #[.slice bo nb bc,.slice to' tl.length tc,.int .i64 mr] 44)=w1 at *;have x1:=X1.o.cell 1 _ rfl;by_cases hlt:k<tl.length
 ·have kk:(k:Int)<(tl.length:Nat):=by omega
  obtain⟨g,off,hao,hg,hc⟩:=H1.o.at Zaz k tl[k] (đb hlt);have c0:=hc 0 _ rfl;rw[Nat.mul_one,Nat.add_zero] at c0;have HV:Hid (tl.getD k 0=tl[k]):=ħ (by rw[đf,đb hlt];rfl);generalize tl[k]=tk at *;generalize tl.length=tn at *;clear hc hg;subst hao
  go_wp2_with fail
  go_ret;exact⟨Zbb HV.o.symm,B1.o⟩
 ·have kk:¬ (k:Int)<(tl.length:Nat):=by omega
  have HV:Hid (tl.getD k 0=0):=ħ (by rw[đf,List.getElem?_eq_none (by omega)];rfl);generalize tl.length=tn at *
  go_wp2_with fail
  go_ret;exact⟨Zbb HV.o.symm,B1.o⟩
end
section
open Go.RowKit Go.Sort
def Zg4{α:Type}(f:α->Bool)(ks:List α):Int:=match ks.findIdx? f with
 | some i=>(i:Int)
 | none=>-1
theorem Zjt{α:Type}(f:α->Bool)(ks:List α):decide (0<=Zg4 f ks)=ks.any f:=by
 unfold Zg4
 cases h:ks.findIdx? f with
 | none =>
  rw[List.findIdx?_eq_none_iff] at h
  have:ks.any f=false:=by rw[List.any_eq_false];intro x hx;simp[h x hx]
  rw[this];rfl
 | some i =>
  rw[List.findIdx?_eq_some_iff_getElem] at h;obtain⟨h1,h2,_⟩:=h;have:ks.any f=true:=List.any_eq_true.2 ⟨_,List.getElem_mem h1,h2⟩;rw[this];show decide (0<=(i:Int))=true;exact decide_eq_true (by omega)
structure memFn (C:World->Prop) (g:Nat) (cb:Array Value) (f:Mem->Bool) (S:Mem->Prop):Prop where
 enters:∀ args w,(callFunc g args).run Tryz.prog w = .ok (.enter g args) w
 step:∀ w w',C w->Below w.heap.size w w'->C w'
 calls:∀ q w cs,S q->Zur w q cs->C w->Calls Tryz.prog g (#[.agg cs.toArray]++cb) w fun e w'=>e = .returned (.bool (f q))/\Below w.heap.size w w'
theorem Zs5 (w:World) (ks:List Mem) (ao:Option Addr) (n cap:Nat) (hn:n=ks.length) (hbig:n<=1000000) (hk:Zhr w ks ao)
  (C:World->Prop) (g:Nat) (cb:Array Value) (f:Mem->Bool) (S:Mem->Prop) (hf:memFn C g cb f S) (hS:∀ q∈ks,S q) (hC:C w) :
  Calls Tryz.prog 138 #[.slice ao n cap,.func (.func g) #[] cb] w fun e w'=>e = .returned (.int .i64 (Zg4 f ks))/\Below w.heap.size w w':=by
 have HK:=ħ hk;have HN:=ħ hn;have HS:=ħ hS;have HST:=ħ hf.step;have HCA:=ħ hf.calls;have eg:=hf.enters;have HI:Hid (Zg4 f ks=match ks.findIdx? f with | some i=>(i:Int) | none=>-1):=ħ rfl;obtain⟨V,hV⟩:∃ V,Zg4 f ks=V:=⟨_,rfl⟩;rw[hV] at HI ⊢;have C0:=ħ hC;have B0:=ħ (đc w.heap.size w);clear hk hn hS hC hf hV
 go_enter Tryz.func138,Tryz.ntmps138
 go_wp2_with fail
 go_loopw [8] (fun cc wr=>∃ (i:Nat),cc = .int .i64 i/\i<=n/\Hid (Below w.heap.size w wr)/\Hid (C wr)/\Hid (∀ j k,j<i->ks[j]?=some k->f k=false)) (fun c _=>(n-intOf c).toNat)
 case atStart=>exact⟨0,rfl,by omega,B0,C0,ħ (fun j k hj=>absurd hj (đu j))⟩
 case round =>
  clear B0 C0;obtain⟨i,rfl,hi,hw,hc,hno⟩:=hrel;have e2:IntKind.i64.wrap ((i:Int)+1)=((i+1:Nat):Int):=đh _ (by omega);by_cases hlt:i<n
  ·have ii:(i:Int)<n:=by omega
   obtain⟨q,hq⟩:∃ q,ks[i]?=some q:=⟨_,đb (by rw[<- HN.o];exact hlt)⟩;have HQI:=ħ hq;obtain⟨gk,off,cs,hao,hgl,hmc,hrd⟩:=(HK.o.below hw.o).at i q hq;obtain⟨bo,bc,to',tc,rfl,hm1,hm2⟩:=hmc;have HMC:Hid (Zur wr q [.slice bo q.b.length bc,.slice to' q.t.length tc,.int .i64 q.r]):=ħ ⟨bo,bc,to',tc,rfl,hm1,hm2⟩;clear hm1 hm2 hgl;have s0:=hrd 0 _ rfl;have s1:=hrd 1 _ rfl;have s2:=hrd 2 _ rfl;rw[Nat.add_zero] at s0;have HAO:=ħ hao;clear hrd hq;subst hao
   go_wp2_with fail
   refine(HCA.o q wr _ (HS.o q (đe HQI.o)) HMC.o hc.o).mono ?_;rintro e w3 ⟨rfl,b3⟩;have hw3:=ħ (hw.o.trans (b3.mono hw.o.size));have hc3:=ħ (HST.o _ _ hc.o b3);clear b3 s0 s1 s2 hw hc
   cases hq:f q with
   | true =>
    have HX:Hid (V=(i:Int)):=ħ (by
     have hlt':i<ks.length:=by rw[<- HN.o];exact hlt
     have:ks.findIdx? f=some i:=by
      rw[List.findIdx?_eq_some_iff_getElem];refine⟨hlt',?_,fun j hj=>?_⟩
      ·have:ks[i]=q:=by have:=HQI.o;rw[đb hlt'] at this;exact đa this
       rw[this];exact hq
      ·have:=hno.o j ks[j] hj (đb (by omega))
       simp[this]
     rw[HI.o,this])
    clear hq
    go_wp2
    go_ret;exact⟨Zbb HX.o.symm,hw3.o⟩
   | false =>
    have HQ2:=ħ hq;clear hq
    go_wp2
    go_roundw
    case rel=>exact⟨i+1,by go_num,by omega,hw3,hc3,ħ (fun j k' hj hk'=>by
     rcases đw j i with h | h
     ·exact hno.o j k' h hk'
     ·obtain rfl:j=i:=by omega
      rw[HQI.o] at hk';obtain rfl:=đa hk'
      exact HQ2.o)⟩
    case measure=>simp only[intOf];omega
  ·have ii:¬ ((i:Int)<n):=by omega
   have HX:Hid (V = -1):=ħ (by
    have:ks.findIdx? f=none:=by
     rw[List.findIdx?_eq_none_iff];intro k hk;obtain⟨j,hj⟩:=đs.1 hk;have hjl:=(đg.1 hj).1;exact hno.o j k (by rw[<- HN.o] at hjl;omega) hj
    rw[HI.o,this])
   go_wp2
   go_ret;exact⟨Zbb HX.o.symm,hw.o⟩
theorem Zp4 (w:World) (ks:List Mem) (ao:Option Addr) (n cap:Nat) (hn:n=ks.length) (hbig:n<=1000000) (hk:Zhr w ks ao)
  (C:World->Prop) (g:Nat) (cb:Array Value) (f:Mem->Bool) (S:Mem->Prop) (hf:memFn C g cb f S) (hS:∀ q∈ks,S q) (hC:C w) :
  Calls Tryz.prog 75 #[.slice ao n cap,.func (.func g) #[] cb] w fun e w'=>e = .returned (.bool (ks.any f))/\Below w.heap.size w w':=by
 have HC:=ħ (Zs5 w ks ao n cap hn hbig hk C g cb f S hf hS hC);have HV:=ħ (Zjt f ks);generalize Zg4 f ks=x at *;generalize ks.any f=V at *;clear hk hf hS hC hn
 go_enter Tryz.func75,Tryz.ntmps75
 go_wp2_with fail
 refine HC.o.mono ?_;rintro e w3 ⟨rfl,b3⟩;have B3:=ħ b3;clear b3
 go_wp2
 go_ret;exact⟨Zac (by rw[<- HV.o]),B3.o⟩
structure useFn (C:World->Prop) (g:Nat) (cb:Array Value) (f:Use->Bool) (S:Use->Prop):Prop where
 enters:∀ args w,(callFunc g args).run Tryz.prog w = .ok (.enter g args) w
 step:∀ w w',C w->Below w.heap.size w w'->C w'
 calls:∀ q w cs,S q->cs=Zcg q->C w->Calls Tryz.prog g (#[.agg cs.toArray]++cb) w fun e w'=>e = .returned (.bool (f q))/\Below w.heap.size w w'
theorem Zs6 (w:World) (ks:List Use) (ao:Option Addr) (n cap:Nat) (hn:n=ks.length) (hbig:n<=1000000) (hk:Zan Zcg w ao ks)
  (C:World->Prop) (g:Nat) (cb:Array Value) (f:Use->Bool) (S:Use->Prop) (hf:useFn C g cb f S) (hS:∀ q∈ks,S q) (hC:C w) :
  Calls Tryz.prog 140 #[.slice ao n cap,.func (.func g) #[] cb] w fun e w'=>e = .returned (.int .i64 (Zg4 f ks))/\Below w.heap.size w w':=by
 have HK:=ħ hk;have HN:=ħ hn;have HS:=ħ hS;have HST:=ħ hf.step;have HCA:=ħ hf.calls;have eg:=hf.enters;have HI:Hid (Zg4 f ks=match ks.findIdx? f with | some i=>(i:Int) | none=>-1):=ħ rfl;obtain⟨V,hV⟩:∃ V,Zg4 f ks=V:=⟨_,rfl⟩;rw[hV] at HI ⊢;have C0:=ħ hC;have B0:=ħ (đc w.heap.size w);clear hk hn hS hC hf hV
 go_enter Tryz.func140,Tryz.ntmps140
 go_wp2_with fail
 go_loopw [8] (fun cc wr=>∃ (i:Nat),cc = .int .i64 i/\i<=n/\Hid (Below w.heap.size w wr)/\Hid (C wr)/\Hid (∀ j k,j<i->ks[j]?=some k->f k=false)) (fun c _=>(n-intOf c).toNat)
 case atStart=>exact⟨0,rfl,by omega,B0,C0,ħ (fun j k hj=>absurd hj (đu j))⟩
 case round =>
  clear B0 C0;obtain⟨i,rfl,hi,hw,hc,hno⟩:=hrel;have e2:IntKind.i64.wrap ((i:Int)+1)=((i+1:Nat):Int):=đh _ (by omega);by_cases hlt:i<n
  ·have ii:(i:Int)<n:=by omega
   obtain⟨q,hq⟩:∃ q,ks[i]?=some q:=⟨_,đb (by rw[<- HN.o];exact hlt)⟩;have HQI:=ħ hq;obtain⟨gk,off,hao,hgl,hcc⟩:=(HK.o.below hw.o).at Zbj i q hq
   have hrd:Zav wr gk (off+i*4) [.int .i64 q.q,.int .i64 q.w,.int .i64 q.f,.int .i64 q.h]:=fun j u hj=>hcc j u hj
   clear hcc hgl;have s0:=hrd 0 _ rfl;have s1:=hrd 1 _ rfl;have s2:=hrd 2 _ rfl;have s3:=hrd 3 _ rfl;rw[Nat.add_zero] at s0;have HAO:=ħ hao;clear hrd hq;subst hao
   go_wp2_with fail
   refine(HCA.o q wr _ (HS.o q (đe HQI.o)) rfl hc.o).mono ?_;rintro e w3 ⟨rfl,b3⟩;have hw3:=ħ (hw.o.trans (b3.mono hw.o.size));have hc3:=ħ (HST.o _ _ hc.o b3);clear b3 s0 s1 s2 s3 hw hc
   cases hq:f q with
   | true =>
    have HX:Hid (V=(i:Int)):=ħ (by
     have hlt':i<ks.length:=by rw[<- HN.o];exact hlt
     have:ks.findIdx? f=some i:=by
      rw[List.findIdx?_eq_some_iff_getElem];refine⟨hlt',?_,fun j hj=>?_⟩
      ·have:ks[i]=q:=by have:=HQI.o;rw[đb hlt'] at this;exact đa this
       rw[this];exact hq
      ·have:=hno.o j ks[j] hj (đb (by omega))
       simp[this]
     rw[HI.o,this])
    clear hq
    go_wp2
    go_ret;exact⟨Zbb HX.o.symm,hw3.o⟩
   | false =>
    have HQ2:=ħ hq;clear hq
    go_wp2
    go_roundw
    case rel=>exact⟨i+1,by go_num,by omega,hw3,hc3,ħ (fun j k' hj hk'=>by
     rcases đw j i with h | h
     ·exact hno.o j k' h hk'
     ·obtain rfl:j=i:=by omega
      rw[HQI.o] at hk';obtain rfl:=đa hk'
      exact HQ2.o)⟩
    case measure=>simp only[intOf];omega
  ·have ii:¬ ((i:Int)<n):=by omega
   have HX:Hid (V = -1):=ħ (by
    have:ks.findIdx? f=none:=by
     rw[List.findIdx?_eq_none_iff];intro k hk;obtain⟨j,hj⟩:=đs.1 hk;have hjl:=(đg.1 hj).1;exact hno.o j k (by rw[<- HN.o] at hjl;omega) hj
    rw[HI.o,this])
   go_wp2
   go_ret;exact⟨Zbb HX.o.symm,hw.o⟩
theorem Zp5 (w:World) (ks:List Use) (ao:Option Addr) (n cap:Nat) (hn:n=ks.length) (hbig:n<=1000000) (hk:Zan Zcg w ao ks)
  (C:World->Prop) (g:Nat) (cb:Array Value) (f:Use->Bool) (S:Use->Prop) (hf:useFn C g cb f S) (hS:∀ q∈ks,S q) (hC:C w) :
  Calls Tryz.prog 78 #[.slice ao n cap,.func (.func g) #[] cb] w fun e w'=>e = .returned (.bool (ks.any f))/\Below w.heap.size w w':=by
 have HC:=ħ (Zs6 w ks ao n cap hn hbig hk C g cb f S hf hS hC);have HV:=ħ (Zjt f ks);generalize Zg4 f ks=x at *;generalize ks.any f=V at *;clear hk hf hS hC hn
 go_enter Tryz.func78,Tryz.ntmps78
 go_wp2_with fail
 refine HC.o.mono ?_;rintro e w3 ⟨rfl,b3⟩;have B3:=ħ b3;clear b3
 go_wp2
 go_ret;exact⟨Zac (by rw[<- HV.o]),B3.o⟩
end
section
open Go.RowKit Go.Shelf Go.Sort
theorem Zan.int{w:World}{ao:Option Addr}{l:List Int}(h:Zan Zbg w ao l)(i:Nat)(x:Int)(hx:l[i]?=some x):∃ g off,ao=some ⟨g,off,none⟩/\g<w.heap.size/\w.cell? ⟨g,off+i,none⟩=some (.int .i64 x):=by
 obtain⟨g,off,h1,h2,h3⟩:=h.at Zaz i x hx;refine⟨g,off,h1,h2,?_⟩;have:=h3 0 (.int .i64 x) rfl
 rwa [Nat.mul_one,Nat.add_zero] at this
def Zc5(b:Bool):List Value:=[.bool b]
end
section
open Go.RowKit Go.Sort
theorem Zs7(i:Nat)(h:i<17):i=0\/i=1\/i=2\/i=3\/i=4\/i=5\/i=6\/i=7\/i=8\/i=9\/i=10\/i=11\/i=12\/i=13\/i=14\/i=15\/i=16:=by omega
end
section
open Go.RowKit Go.Sort Go.Maps
theorem Zao.wide{w:World}{P:Nat->Prop}{p:Prd}{vs:List Value}(h:Zao w P p vs):Zao w (fun _=>True) p vs:=Zao.keep (fun _ _ _=>rfl) (đd _) (fun _ _ _=>trivial) p vs h
theorem Zae.readsR{w:World}{g:Nat}{t:TypeId}{vs:List Value}(h:Zae w g t vs):Zav w g 0 vs:=fun j u hj=>by rw[Nat.zero_add];exact h.cell j u hj
theorem Zg5(b:Bool):(Zc5 b).length=1:=rfl
theorem Zan.bool{w:World}{bo:Option Addr}{l:List Bool}(h:Zan Zc5 w bo l)(i:Nat)(hi:i<l.length):∃ g off,bo=some ⟨g,off,none⟩/\w.cell? ⟨g,off+i,none⟩=some (.bool (l.getD i false)):=by
 obtain⟨g,off,h1,h2,h3⟩:=h.at Zg5 i l[i] (đb hi);refine⟨g,off,h1,?_⟩;have:=h3 0 _ rfl;rw[Nat.mul_one,Nat.add_zero] at this;rw[this,đf,đb hi];rfl
end
section
open Go.RowKit Go.Shelf Go.Sort
theorem Zae.addr{w:World}{g:Nat}{t:TypeId}{vs:List Value}(h:Zae w g t vs)(j:Nat)(u:Value)(hj:vs[j]?=some u):w.cell? ((⟨g,0,none⟩:Addr).add j)=some u:=by
 rw[Addr.add_lit,Nat.zero_add];exact h.cell j u hj
theorem OwnK.sortI{w:World}{B n cap g off m:Nat}{l:List Int}{d:List Int}{os:Array Obj}(h:OwnK w B 1 n cap (l.flatMap Zbg) (some ⟨g,off,none⟩))(hd:d.length=l.length) :
  OwnK (grow (putRow (Value.int .i64) (Sort.ahead w m) g off d.toArray) os) B 1 n cap (d.flatMap Zbg) (some ⟨g,off,none⟩)/\Only w (grow (putRow (Value.int .i64) (Sort.ahead w m) g off d.toArray) os) (· = g)/\Holds (Value.int .i64) w g off l.toArray:=by
 have hlen:=h.count
 have hll:l.length=n:=by rw[Zb9 Zbg 1 Zaz,Nat.mul_one,Nat.mul_one] at hlen;exact hlen
 cases h with
 | «at» g off h h1 h2 h3 =>
  have hlt:=h.lt;have hle:=h.le;rw[Nat.mul_one,h1,Nat.mul_one] at hle
  have hH:Holds (Value.int .i64) w g off l.toArray:=by
   intro j hj;rw[List.size_toArray] at hj;refine⟨?_,h.warm j (by omega)⟩;rw[h.cells j (.int .i64 l.toArray[j]!) (by rw[<- Zed,ivs,đj,đb hj,getElem!_pos l.toArray j (by simpa using hj)];simp)]
  have hH2:Holds (Value.int .i64) (grow (putRow (Value.int .i64) (Sort.ahead w m) g off d.toArray) os) g off d.toArray:=holds_sortWorld (Value.int .i64) w g off m l.toArray d.toArray os hlt hH (by simpa using hd)
  have hsz:w.heap.size<=(grow (putRow (Value.int .i64) (Sort.ahead w m) g off d.toArray) os).heap.size:=by
   rw[show grow (putRow (Value.int .i64) (Sort.ahead w m) g off d.toArray) os=sortWorld (Value.int .i64) w g off m d.toArray os from rfl];unfold sortWorld grow;simp[Sort.ahead]
  have hg:∀ a:Addr,a.block<w.heap.size->(grow (putRow (Value.int .i64) (Sort.ahead w m) g off d.toArray) os).cell? a=(putRow (Value.int .i64) (Sort.ahead w m) g off d.toArray).cell? a:=fun a ha =>
   đx (heap_grow_old _ _ (by rw[Sort.size_putRow];exact ha))
  have hgf:∀ a:Addr,a.block<w.heap.size->(grow (putRow (Value.int .i64) (Sort.ahead w m) g off d.toArray) os).frozen? a=(putRow (Value.int .i64) (Sort.ahead w m) g off d.toArray).frozen? a:=fun a ha =>
   World.frozen?_of_block (heap_grow_old _ _ (by rw[Sort.size_putRow];exact ha))
  have hfl:(d.flatMap Zbg).length=n*1:=by rw[Zb9 Zbg 1 Zaz,hd,hll]
  refine⟨.at g off ⟨h.own,đm hlt hsz,by rw[hfl];exact Nat.mul_le_mul_right 1 h3,fun j u hj=>?_,fun j hj=>?_,fun j hj=>?_⟩ hfl h2 h3,?_,hH⟩
  ·rw[<- Zed,ivs,đj] at hj
   obtain⟨x,hx,rfl⟩:=Option.map_eq_some_iff.1 hj;have hjl:=(đg.1 hx).1;rw[(hH2 j (by simpa using hjl)).1,getElem!_pos d.toArray j (by simpa using hjl)];simp[(đg.1 hx).2]
  ·by_cases hj2:j<d.length
   ·rw[(hH2 j (by simpa using hj2)).1];rfl
   ·rw[hg _ hlt,Sort.cell?_putRow_other _ _ _ _ _ _ (.inr (.inr (by rw[List.size_toArray];show off+d.length<=off+j;omega)))]
    exact h.room j hj
  ·rw[hgf _ hlt,Sort.frozen?_putRow]
   exact h.warm j hj
  ·refine⟨rfl,rfl,rfl,hsz,fun i hi hne=>?_⟩
   have e1:(grow (putRow (Value.int .i64) (Sort.ahead w m) g off d.toArray) os).heap[i]?=(putRow (Value.int .i64) (Sort.ahead w m) g off d.toArray).heap[i]?:=heap_grow_old _ _ (by rw[Sort.size_putRow];exact hi);rw[e1];show(w.heap.modify g _)[i]?=_;rw[Array.getElem?_modify,if_neg (fun e=>hne e.symm)]
theorem Zwc(w:World)(B n cap g off:Nat)(l:List Int)(hn:n=l.length)(hO:OwnK w B 1 n cap (l.flatMap Zbg) (some ⟨g,off,none⟩))(hbig:n<=1000000) :
  Calls Tryz.prog 169 #[.slice (some ⟨g,off,none⟩) n cap] w fun e w'=>e = .returned (.tuple #[])/\OwnK w' B 1 n cap ((l.mergeSort leI).flatMap Zbg) (some ⟨g,off,none⟩)/\Only w w' (· = g):=by
 have hlt:g<w.heap.size:=(hO.blk_lt rfl).2;have hH:=(OwnK.sortI (m:=0) (os:=#[]) hO (d:=l) rfl).2.2;rw[hn];refine(Tryz.slices_Sort_int g off cap l w hH hlt (by omega)).mono ?_;rintro e w' ⟨rfl,m,os,rfl⟩;obtain⟨h1,h2,-⟩:=OwnK.sortI (m:=m) (os:=os) hO (d:=l.mergeSort leI) (List.length_mergeSort ..);exact⟨rfl,by rw[<- hn];exact h1,h2⟩
where flatMap_le1 {α:Type} (f:α->List Int) (h:∀ x,(f x).length<=1):∀ l:List α,(l.flatMap f).length<=l.length
 | []=>by simp
 | x::xs=>by
  rw[List.flatMap_cons,đn,List.length_cons];have h1:=h x;have h2:=flatMap_le1 f h xs;omega
end
section
open Go.RowKit Go.Sort
theorem OwnK.two(w:World)(a b:Int)(T:TypeId):OwnK (w.alloc (.cells #[.int .i64 a,.int .i64 b] T)) w.heap.size 1 2 2 ([a,b].flatMap Zbg) (some ⟨w.heap.size,0,none⟩) :=
 have hA:Zae (w.alloc (.cells #[.int .i64 a,.int .i64 b] T)) w.heap.size T [.int .i64 a,.int .i64 b]:=heap_alloc_new w _
 .at w.heap.size 0 ⟨đd _,hA.lt,by simp[Zbg],fun j u h=>by rw[Nat.zero_add];exact hA.cell j u (by simpa [Zbg] using h),fun j h=>by
  rw[Nat.zero_add]
  have h2:j<2:=by omega
  rcases (show j=0\/j=1 by omega) with rfl | rfl
  ·rw[hA.cell 0 _ rfl];rfl
  ·rw[hA.cell 1 _ rfl];rfl,fun j h=>by rw[Nat.zero_add];exact hA.warm j⟩ (by simp[Zbg]) (by simp[maxLen]) (đd _)
theorem Zl0(i:Nat)(h:i<11):i=0\/i=1\/i=2\/i=3\/i=4\/i=5\/i=6\/i=7\/i=8\/i=9\/i=10:=by omega
theorem Zdb(i:Nat)(h:i<10):i=0\/i=1\/i=2\/i=3\/i=4\/i=5\/i=6\/i=7\/i=8\/i=9:=by omega
end
end Go.Proofs.YtbcgocpihobjnaaGreatDoor
