import Derived.Test.YtbcgocpihobjnaaGreatDoorCL39
import Derived.Test.YtbcgocpihobjnaaGreatDoorCL36
import Derived.Test.YtbcgocpihobjnaaGreatDoorCL0
import Derived.Test.YtbcgocpihobjnaaGreatDoorCL13
import Derived.Test.YtbcgocpihobjnaaGreatDoorCL24
import Derived.Test.YtbcgocpihobjnaaGreatDoorCL32
import Derived.Test.YtbcgocpihobjnaaGreatDoorCL34
set_option linter.all false
set_option maxHeartbeats 16000000
set_option maxRecDepth 100000
namespace Go.Proofs.YtbcgocpihobjnaaGreatDoor
section
open Go.RowKit Go.Sort Go.Maps
theorem YX{c:Crw}{C:List (List Bool)}(aJ:ReckOk c C)(k:Nat):pB c (k:Int)=jC (aR c C) k:=by
 unfold pB jC;refine List.filter_congr (fun u hu=>?_);have hu:=List.mem_range.1 hu;have h:=aJ.win c.us[u] (List.getElem_mem hu);show((c.us.getD u ⟨0,0,0,0⟩).w==(k:Int))=((c.us.getD u ⟨0,0,0,0⟩).w.toNat==k);rw[bR,aL hu];show(c.us[u].w==(k:Int))=(c.us[u].w.toNat==k);rw[Bool.eq_iff_iff,beq_iff_eq,beq_iff_eq];omega
theorem YY{T:Tbl}{k:Nat}(h:cntTo' T k=none):∀ d,cntTo' T (k+d)=none
 | 0=>h
 | d+1=>by
  show(match cntTo' T (k+d) with | none=>none | some x=>if tZ T (jC T (k+d)) (k+d)=0 then none else some (min lH (x*tZ T (jC T (k+d)) (k+d))))=none;rw[YY h d]
theorem Z2m(T:Tbl)(g:List Nat)(k:Nat):tZ T g k<=lH:=TF _ _ _ _ _
theorem Z0h{T:Tbl}{k u:Nat}(h:u∈jC T k):u<T.U:=List.mem_range.1 (List.mem_filter.1 h).1
theorem Nz{w:World}{B n cap:Nat}{l:List Nat}{o:Option Addr}(h:OwnK w B 1 n cap (bE l) o)(hn:n=l.length):aY aZ w o (l.map Int.ofNat):=by
 rw[ox] at h;exact h.flatR jN (by rw[eB];exact hn)
theorem Zxm(w:World)(A:Nat)(c:Crw)(H C:List (List Bool))(hr:fG w A c H C)(aJ:ReckOk c C)(hg:∀ k,k<16->(jC (aR c C) k).length<=12) :
  Calls Tryz.prog 113 #[.pointer (some ⟨A,0,none⟩)] w fun e w'=>e = .returned (.int .i64 ((yL (aR c C):Nat):Int))/\Below w.heap.size w w':=by
 have Da:Hid (∀ (k:Nat) W,k<16->Below w.heap.size w W->Calls Tryz.prog 99 #[.pointer (some ⟨A,0,none⟩),.int .i64 (k:Int)] W fun e w'=>(∃ o cap,e = .returned (.slice o (jC (aR c C) k).length cap)/\OwnK w' W.heap.size 1 (jC (aR c C) k).length cap (bE (jC (aR c C) k)) o)/\Below W.heap.size W w'):=I (fun k W _ hW=>by
  have h:=FL W A c H C (k:Int) (hr.below hW) aJ;rw[YX aJ k] at h
  exact h)
 have KS:Hid (∀ (k:Nat) W o cap,k<16->Below w.heap.size w W->aY aZ W o ((jC (aR c C) k).map Int.ofNat)->Calls Tryz.prog 164 #[.pointer (some ⟨A,0,none⟩),.slice o (jC (aR c C) k).length cap,.int .i64 (k:Int)] W fun e w'=>e = .returned (.int .i64 ((tZ (aR c C) (jC (aR c C) k) k:Nat):Int))/\Below W.heap.size W w'):=I (fun k W o cap hk hW hf =>
  Z0f W A c H C (jC (aR c C) k) o cap k (hr.below hW) aJ hf (fun u hu=>Z0h hu) (hg k hk) (by omega))
 clear hr aJ hg;obtain⟨T,hT⟩:=exq (aR c C);rw[hT] at Da KS;rw[hT];clear hT
 have dY:Hid (∀ k x y,cntTo' T k=some x->tZ T (jC T k) k=y->cntTo' T (k+1)=if y=0 then none else some (min lH (x*y))):=I (fun k x y h h2=>by
  show(match cntTo' T k with | none=>none | some x=>if tZ T (jC T k) k=0 then none else some (min lH (x*tZ T (jC T k) k)))=_
  rw[h,h2])
 have lT:Hid (∀ x,cntTo' T 16=some x->yL T=x):=I (fun x h=>by unfold yL;rw[h];rfl)
 have lQ:Hid (∀ k,k<=16->cntTo' T k=none->yL T=0):=I (fun k hk h=>by
  have:=YY h (16-k);rw[show k+(16-k)=16 from by omega] at this
  unfold yL;rw[this];rfl)
 have J8:Hid (cntTo' T 0=some 1):=I rfl;generalize yL T=CF at *
 go_enter Tryz.func113,Tryz.ntmps113
 go_wp2_with fail
 go_loopw [8,3] (fun kv ov wr=>∃ (k x:Nat),kv = .int .i64 k/\ov = .int .i64 x/\k<=16/\x<=1152921504606846977/\Hid (cntTo' T k=some x)/\Hid (Below w.heap.size w wr)) (fun k _ _=>(16-intOf k).toNat)
 case atStart=>exact⟨0,1,rfl,rfl,by omega,by omega,J8,I (aG _ _)⟩
 case round =>
  obtain⟨k,x,rfl,rfl,hk,hx,HX,B1⟩:=hrel;have e2:=w1i k (by omega);by_cases bT:k<16
  ·have kk:(k:Int)<16:=by omega
   have HG:=I (Da.o k wr bT B1.o)
   go_wp2_with fail
   refine HG.o.mono ?_;rintro e w2 ⟨⟨o,cap,rfl,ho⟩,b2⟩;have B2:=B1.tr b2;have HW:=I (KS.o k w2 o cap bT B2.o (Nz ho rfl));have HN:=dY.o k x _ HX.o rfl;have qB:tZ T (jC T k) k<=1152921504606846977:=Z2m _ _ _;clear ho b2 HG;obtain⟨y,hy⟩:=exq (tZ T (jC T k) k);rw[hy] at HW HN qB;have HN:=I HN;clear hy;generalize (jC T k).length=gl at *
   go_wp2_with fail
   refine HW.o.mono ?_;rintro e w3 ⟨rfl,b3⟩;have B3:=B2.tr b3;clear b3 HW B2;by_cases h0:y=0
   ·subst h0
    have HZ:Hid (CF=0):=I (lQ.o (k+1) (by omega) (by rw[HN.o,if_pos rfl]))
    go_wp2_with fail
    go_ret;exact⟨by rw[HZ.o];rfl,B3.o⟩
   ·have y0:¬ (y:Int)=0:=by omega
    have y1:((y:Int)==0)=false:=by simpa using y0
    have Lx:Hid (cntTo' T (k+1)=some (min lH (x*y))):=I (by rw[HN.o,if_neg h0]);have jy:=I (Tryz.bits_Mul64 x y (by omega) (by omega) w3);have e3:IntKind.u64.wrap (x:Int)=(x:Int):=IntWalk.u64_in _ (by omega);have e4:IntKind.u64.wrap (y:Int)=(y:Int):=IntWalk.u64_in _ (by omega);obtain⟨z,hz⟩:=exq (x*y);rw[hz] at jy Lx;clear hz HN;obtain⟨hi,KT⟩:=exq (z/18446744073709551616);obtain⟨lo,fI⟩:=exq (z%18446744073709551616);rw[KT,fI] at jy;have HZ:Hid (z=18446744073709551616*hi+lo/\lo<18446744073709551616):=I (by omega);clear KT fI
    go_wp2_with fail
    refine jy.o.mono ?_;rintro e w4 ⟨rfl,rfl⟩;clear jy e3 e4;by_cases hh:0<hi
    ·have g1:(0:Int)<(hi:Int):=by omega
     have HM:Hid (min lH z=1152921504606846977):=I (by
      have:=HZ.o;have:lH=1152921504606846977:=rfl
      omega)
     go_wp2_with fail
     go_roundw
     case rel=>exact⟨k+1,1152921504606846977,by go_num,by go_num,by omega,by omega,I (by rw[Lx.o,HM.o]),B3⟩
     case measure=>simp only[intOf];omega
    ·have g1:¬ (0:Int)<(hi:Int):=by omega
     by_cases hl:1152921504606846976<lo
     ·have g2:(1152921504606846976:Int)<(lo:Int):=by omega
      have HM:Hid (min lH z=1152921504606846977):=I (by
       have:=HZ.o;have:lH=1152921504606846977:=rfl
       omega)
      go_wp2_with fail
      go_roundw
      case rel=>exact⟨k+1,1152921504606846977,by go_num,by go_num,by omega,by omega,I (by rw[Lx.o,HM.o]),B3⟩
      case measure=>simp only[intOf];omega
     ·have g2:¬ (1152921504606846976:Int)<(lo:Int):=by omega
      have e5:IntKind.i64.wrap (lo:Int)=(lo:Int):=fU _ (by omega)
      have HM:Hid (min lH z=lo):=I (by
       have:=HZ.o;have:lH=1152921504606846977:=rfl
       omega)
      go_wp2_with fail
      go_roundw
      case rel=>exact⟨k+1,lo,by go_num,by go_num,by omega,by omega,I (by rw[Lx.o,HM.o]),B3⟩
      case measure=>simp only[intOf];omega
  ·have kk:¬ (k:Int)<16:=by omega
   obtain rfl:16=k:=by omega
   have HC:=I (lT.o x HX.o)
   go_wp2_with fail
   go_ret;exact⟨by rw[HC.o];rfl,B1.o⟩
end
section
open Go.RowKit Go.Sort Go.Maps
theorem Zqo(w:World)(A:Nat)(c:Crw)(H C:List (List Bool))(hr:fG w A c H C)(aJ:ReckOk c C) :
  Calls Tryz.prog 82 #[.pointer (some ⟨A,0,none⟩)] w fun e w'=>e = .returned (.tuple #[.int .i64 (((Hh (aR c C)).1:Nat):Int),.int .i64 (((Hh (aR c C)).2:Nat):Int)])/\Below w.heap.size w w':=by
 have Da:Hid (∀ (k:Nat) W,k<16->Below w.heap.size w W->Calls Tryz.prog 99 #[.pointer (some ⟨A,0,none⟩),.int .i64 (k:Int)] W fun e w'=>(∃ o cap,e = .returned (.slice o (jC (aR c C) k).length cap)/\OwnK w' W.heap.size 1 (jC (aR c C) k).length cap (bE (jC (aR c C) k)) o)/\Below W.heap.size W w'):=I (fun k W _ hW=>by
  have h:=FL W A c H C (k:Int) (hr.below hW) aJ;rw[YX aJ k] at h
  exact h)
 have sL:=I (fun W (hW:Below w.heap.size w W) (h:∀ k,k<16->(jC (aR c C) k).length<=12)=>Zxm W A c H C (hr.below hW) aJ h)
 have uT:Hid (∀ k,(jC (aR c C) k).length<=1000):=I (fun k=>by
  unfold jC;refine dQ (Ta _ _) ?_
  exact aJ.nu)
 clear hr aJ;obtain⟨T,hT⟩:=exq (aR c C);rw[hT] at Da sL uT;rw[hT];clear hT
 have HA:Hid (∀ k,k<16->12<(jC T k).length->Hh T=(0,6)):=I (fun k hk h=>by
  unfold Hh
  rw[if_pos (List.any_eq_true.2 ⟨k,List.mem_range.2 hk,by simpa using h⟩)])
 have HB:Hid ((∀ k,k<16->(jC T k).length<=12)->Hh T=if 1152921504606846976<yL T then(0,6) else(yL T,0)):=I (fun h=>by
  unfold Hh
  rw[if_neg (fun h2=>by
   obtain⟨k,hk,h3⟩:=List.any_eq_true.1 h2;have:=h k (List.mem_range.1 hk);simp at h3
   omega)])
 have cA:Hid (yL T<=lH):=I (by
  have key:∀ k,∀ x,cntTo' T k=some x->x<=lH:=fun k=>by
   cases k with
   | zero=>intro x h;have h:some 1=some x:=h;have:=bF h;have h2:lH=1152921504606846977:=rfl;omega
   | succ k =>
    intro x h;have h:(match cntTo' T k with | none=>none | some x=>if tZ T (jC T k) k=0 then none else some (min lH (x*tZ T (jC T k) k)))=some x:=h
    split at h
    ·cases h
    ·split at h
     ·cases h
     ·have:=bF h
      rw[<- this];exact Nat.min_le_left _ _
  unfold yL
  cases h:cntTo' T 16 with
  | none=>exact Nat.zero_le _
  | some x=>exact key 16 x h)
 generalize Hh T=CD at *;generalize yL T=CF at *
 go_enter Tryz.func82,Tryz.ntmps82
 go_wp2_with fail
 go_loopw [6] (fun kv wr=>∃ (k:Nat),kv = .int .i64 k/\k<=16/\Hid (∀ j,j<k->(jC T j).length<=12)/\Hid (Below w.heap.size w wr)) (fun k _=>(16-intOf k).toNat)
 case atStart=>exact⟨0,rfl,by omega,I (fun j hj=>absurd hj (jU j)),I (aG _ _)⟩
 case round =>
  obtain⟨k,rfl,hk,HJ,B1⟩:=hrel;have e2:=w1i k (by omega);by_cases bT:k<16
  ·have kk:(k:Int)<16:=by omega
   have HG:=I (Da.o k wr bT B1.o)
   go_wp2_with fail
   refine HG.o.mono ?_;rintro e w2 ⟨⟨o,cap,rfl,-⟩,b2⟩;have B2:=B1.tr b2;clear b2 HG;have xE:=uT.o k;have zM:=HA.o k bT;obtain⟨gl,dT⟩:=exq ((jC T k).length);rw[dT] at xE zM;have zM:=I zM;have tW:=I dT;rw[dT];clear dT;by_cases aE:12<gl
   ·have g1:(12:Int)<(gl:Int):=by omega
    have HR:=I (zM.o aE)
    go_wp2_with fail
    go_ret2
    exact⟨by rw[HR.o];rfl,B2.o⟩
   ·have g1:¬ (12:Int)<(gl:Int):=by omega
    go_wp2_with fail
    go_roundw
    case rel=>exact⟨k+1,by go_num,by omega,I (fun j hj=>by
     rcases gQ j k with h | h
     ·exact HJ.o j h
     ·obtain rfl:j=k:=by omega
      rw[tW.o];omega),B2⟩
    case measure=>simp only[intOf];omega
  ·have kk:¬ (k:Int)<16:=by omega
   obtain rfl:16=k:=by omega
   have HC:=I (sL.o wr B1.o HJ.o);have HR:=I (HB.o HJ.o);have dW:CF<=1152921504606846977:=cA.o
   go_wp2_with fail
   refine HC.o.mono ?_;rintro e w2 ⟨rfl,b2⟩;have B2:=B1.tr b2;clear b2 HC;by_cases aE:1152921504606846976<CF
   ·have g1:(1152921504606846976:Int)<(CF:Int):=by omega
    have lS:Hid (CD=(0,6)):=I (by rw[HR.o,if_pos aE])
    go_wp2_with fail
    go_ret2
    exact⟨by rw[lS.o];rfl,B2.o⟩
   ·have g1:¬ (1152921504606846976:Int)<(CF:Int):=by omega
    have lS:Hid (CD=(CF,0)):=I (by rw[HR.o,if_neg aE])
    go_wp2_with fail
    go_ret2
    exact⟨by rw[lS.o];rfl,B2.o⟩
def Lk(c:Crw):Nat×Nat:=if bG c=true then Hh (aR c (aW c)) else(0,1)
theorem Z0i(w:World)(c:Crw)(cs:List Value)(B:Nat)(ha:ArgC w c cs B) :
  Calls Tryz.prog 22 #[.agg cs.toArray] w fun e w'=>e = .returned (.tuple #[.int .i64 (((Lk c).1:Nat):Int),.int .i64 (((Lk c).2:Nat):Int)])/\Below w.heap.size w w':=by
 have iT:=I (fun W (hW:Below w.heap.size w W)=>Lf W c cs (ha.below hW).crw B (ha.below hW).tab ha.ok);have iC:=ha.nu;have cU:=I (fun(h:bG c=true)=>qP h (by omega));have nM:=I (fun(h:bG c=true)=>tL h);have vD:=I ha;have lE:=ha.ok.nq;have jI:=ha.ok.nm;have bJ:Hid (Lk c=if bG c=true then Hh (aR c (aW c)) else(0,1)):=I rfl;generalize Lk c=PA at *;obtain⟨qo,qc,mo,mc,uo,uc,rfl,dL,cN,dN,-⟩:=ha.crw;have nA:=I (fun W (hW:Below w.heap.size w W)=>cN.below hW);have jJ:=I (fun W (hW:Below w.heap.size w W)=>dN.below hW);unfold Fm at iT;clear ha dL cN dN;generalize eW:c.qs.length=nq at *;generalize cY:c.ms.length=nm at *;generalize dH:c.us.length=nu at *;have wN:=I eW;have fF:=I cY;have dZ:=I dH;clear eW cY dH;generalize iM:bG c=vc at *;have lD:=I iM;clear iM;have X1:=hnw w 26 [.slice qo nq qc,.slice mo nm mc,.slice uo nu uc];have B1:=I (bwA w (.cells #[.slice qo nq qc,.slice mo nm mc,.slice uo nu uc] 26))
 go_enter Tryz.func22,Tryz.ntmps22
 go_upto_region 1 with(fail)
 generalize w.alloc (.cells #[.slice qo nq qc,.slice mo nm mc,.slice uo nu uc] 26)=w1 at *;obtain⟨c0,c1,c2⟩:=X1.o.c3;have cA:=I (iT.o w1 B1.o);clear iT
 go_wp2_with fail
 refine cA.o.mono ?_;intro e w2 hq;obtain⟨aN,b2⟩:=hq;have B2:=B1.tr b2;have X2:=X1.st b2;have mA:Hid (w.heap.size<w2.heap.size):=I X2.o.lt;clear b2 c0 c1 c2 B1 X1 cA
 cases vc with
 | false =>
  rw[if_neg (by decide)] at aN;subst aN;have bK:Hid (PA=(0,1)):=I (by rw[bJ.o];rfl);clear bJ
  go_wp2_with fail
  go_ret2
  exact⟨by rw[bK.o];rfl,B2.o⟩
 | true =>
  rw[if_pos rfl] at aN;obtain⟨A,rfl,hR,-⟩:=aN;have HR:=I hR;have cV:=I (cU.o rfl);clear hR cU;have bK:Hid (PA=Hh (aR c (aW c))):=I (by rw[bJ.o];rfl);have gP:=I (Zqo w2 A c (bS c) (aW c) HR.o cV.o);clear bJ;rw[<- bK.o] at gP
  go_wp2_with fail
  refine gP.o.mono ?_;rintro e w3 ⟨rfl,b3⟩;have B3:=B2.tr b3;clear b3 gP
  go_wp2_with fail
  go_ret2
  exact⟨rfl,B3.o⟩
end
section
open Go.RowKit Go.Sort
structure intFn (C:World->Prop) (g:Nat) (cb:Array Value) (f:Int->Bool) (S:Int->Prop):Prop where
 enters:∀ args w,(callFunc g args).run Tryz.prog w = .ok (.enter g args) w
 step:∀ w w',C w->Below w.heap.size w w'->C w'
 calls:∀ q w,S q->C w->Calls Tryz.prog g (#[.int .i64 q]++cb) w fun e w'=>e = .returned (.bool (f q))/\Below w.heap.size w w'
theorem Zt3 (w:World) (ks:List Int) (ao:Option Addr) (n cap:Nat) (hn:n=ks.length) (bN:n<=1000000) (hk:aY aZ w ao ks)
  (C:World->Prop) (g:Nat) (cb:Array Value) (f:Int->Bool) (S:Int->Prop) (hf:intFn C g cb f S) (hS:∀ q∈ks,S q) (hC:C w) :
  Calls Tryz.prog 144 #[.slice ao n cap,.func (.func g) #[] cb] w fun e w'=>e = .returned (.int .i64 (wY f ks))/\Below w.heap.size w w':=by
 have HK:=I hk;have HN:=I hn;have HS:=I hS;have bQ:=I hf.step;have yW:=I hf.calls;have eg:=hf.enters;have HI:Hid (wY f ks=match ks.findIdx? f with | some i=>(i:Int) | none=>-1):=I rfl;obtain⟨V,hV⟩:=exq (wY f ks);rw[hV] at HI ⊢;have C0:=I hC;have B0:=I (aG w.heap.size w);clear hk hn hS hC hf hV
 go_enter Tryz.func144,Tryz.ntmps144
 go_wp2_with fail
 go_loopw [8] (fun cc wr=>∃ (i:Nat),cc = .int .i64 i/\i<=n/\Hid (Below w.heap.size w wr)/\Hid (C wr)/\Hid (∀ j k,j<i->ks[j]?=some k->f k=false)) (fun c _=>(n-intOf c).toNat)
 case atStart=>exact⟨0,rfl,by omega,B0,C0,I (fun j k hj=>absurd hj (jU j))⟩
 case round =>
  clear B0 C0;obtain⟨i,rfl,hi,hw,hc,nK⟩:=hrel;have e2:=w1i i (by omega);by_cases aE:i<n
  ·have ii:(i:Int)<n:=by omega
   obtain⟨q,hq⟩:∃ q,ks[i]?=some q:=⟨_,aL (by rw[<- HN.o];exact aE)⟩;have gZ:=I hq;obtain⟨gk,off,bI,dT,eK⟩:=(HK.o.below hw.o).at jN i q hq;have s0:=eK 0 _ rfl;rw[Nat.mul_one,Nat.add_zero] at s0;have mT:=I bI;clear eK dT hq;subst bI
   go_wp2_with fail
   refine(yW.o q wr (HS.o q (bU gZ.o)) hc.o).mono ?_;rintro e w3 ⟨rfl,b3⟩;have kA:=hw.tr b3;have qE:=I (bQ.o _ _ hc.o b3);clear b3 s0 hw hc
   cases hq:f q with
   | true =>
    have HX:Hid (V=(i:Int)):=I (by
     have nV:i<ks.length:=by rw[<- HN.o];exact aE
     have:ks.findIdx? f=some i:=by
      rw[List.findIdx?_eq_some_iff_getElem];refine⟨nV,?_,fun j hj=>?_⟩
      ·have:ks[i]=q:=by have:=gZ.o;rw[aL nV] at this;exact bF this
       rw[this];exact hq
      ·have:=nK.o j ks[j] hj (aL (by omega))
       simp[this]
     rw[HI.o,this])
    clear hq
    go_wp2
    go_ret;exact⟨mI HX.o.symm,kA.o⟩
   | false =>
    have Bu:=I hq;clear hq
    go_wp2
    go_roundw
    case rel=>exact⟨i+1,by go_num,by omega,kA,qE,I (fun j k' hj kZ=>by
     rcases gQ j i with h | h
     ·exact nK.o j k' h kZ
     ·obtain rfl:j=i:=by omega
      rw[gZ.o] at kZ;obtain rfl:=bF kZ
      exact Bu.o)⟩
    case measure=>simp only[intOf];omega
  ·have ii:¬ ((i:Int)<n):=by omega
   have HX:Hid (V = -1):=I (by
    have:ks.findIdx? f=none:=by
     rw[List.findIdx?_eq_none_iff];intro k hk;obtain⟨j,hj⟩:=pV.1 hk;have pF:=(fD.1 hj).1;exact nK.o j k (by rw[<- HN.o] at pF;omega) hj
    rw[HI.o,this])
   go_wp2
   go_ret;exact⟨mI HX.o.symm,hw.o⟩
theorem fa (w:World) (ks:List Int) (ao:Option Addr) (n cap:Nat) (hn:n=ks.length) (bN:n<=1000000) (hk:aY aZ w ao ks)
  (C:World->Prop) (g:Nat) (cb:Array Value) (f:Int->Bool) (S:Int->Prop) (hf:intFn C g cb f S) (hS:∀ q∈ks,S q) (hC:C w) :
  Calls Tryz.prog 88 #[.slice ao n cap,.func (.func g) #[] cb] w fun e w'=>e = .returned (.bool (ks.any f))/\Below w.heap.size w w':=by
 have HC:=I (Zt3 w ks ao n cap hn bN hk C g cb f S hf hS hC);have HV:=I (EC f ks);generalize wY f ks=x at *;generalize ks.any f=V at *;clear hk hf hS hC hn
 go_enter Tryz.func88,Tryz.ntmps88
 go_wp2_with fail
 refine HC.o.mono ?_;rintro e w3 ⟨rfl,b3⟩;have B3:=I b3;clear b3
 go_wp2
 go_ret;exact⟨aF (by rw[<- HV.o]),B3.o⟩
end
section
open Go.RowKit Go.Sort Go.Maps
theorem Zxn(A:Nat)(qo mo uo:Option Addr)(nq nm nu qc mc uc:Nat)(h1:nq<=1000000000) :
  intFn (fun W=>aC W A 26 [.slice qo nq qc,.slice mo nm mc,.slice uo nu uc]) 143 #[.pointer (some ⟨A,0,none⟩)] (fun q=>!cM q nq) (fun _=>True):=by
 refine⟨enters_of Tryz.func143 (by kernel_rfl) rfl,fun w w' h hb=>h.step hb,fun q w hS hT=>?_⟩;have HX:=I hT;have gB:Hid (Calls Tryz.prog 83 #[.int .i64 q,.int .i64 0,.int .i64 ((nq:Int)-1)] w fun e w'=>e = .returned (.bool (cM q nq))/\w=w'):=I (vQ q 0 ((nq:Int)-1) w);have ew:IntKind.i64.wrap ((nq:Int)-1)=(nq:Int)-1:=fU _ (by omega);clear hT hS;generalize cM q nq=b at *;have c0:=HX.o.cell 0 _ rfl
 go_enter Tryz.func143,Tryz.ntmps143
 go_wp2_with fail
 refine gB.o.mono ?_;rintro e w2 ⟨rfl,rfl⟩;clear c0
 go_wp2_with fail
 go_ret;exact⟨rfl,aG _ _⟩
theorem Zxo(A:Nat)(qo mo uo:Option Addr)(nq nm nu qc mc uc:Nat)(h1:nu<=1000000000) :
  intFn (fun W=>aC W A 26 [.slice qo nq qc,.slice mo nm mc,.slice uo nu uc]) 152 #[.pointer (some ⟨A,0,none⟩)] (fun q=>!cM q nu) (fun _=>True):=by
 refine⟨enters_of Tryz.func152 (by kernel_rfl) rfl,fun w w' h hb=>h.step hb,fun q w hS hT=>?_⟩;have HX:=I hT;have gB:Hid (Calls Tryz.prog 83 #[.int .i64 q,.int .i64 0,.int .i64 ((nu:Int)-1)] w fun e w'=>e = .returned (.bool (cM q nu))/\w=w'):=I (vQ q 0 ((nu:Int)-1) w);have ew:IntKind.i64.wrap ((nu:Int)-1)=(nu:Int)-1:=fU _ (by omega);clear hT hS;generalize cM q nu=b at *;have c0:=HX.o.cell 2 _ rfl
 go_enter Tryz.func152,Tryz.ntmps152
 go_wp2_with fail
 refine gB.o.mono ?_;rintro e w2 ⟨rfl,rfl⟩;clear c0
 go_wp2_with fail
 go_ret;exact⟨rfl,aG _ _⟩
def uD(c:Crw)(l:List Int):Bool:=bG c&&!l.any (fun q=>!cM q c.qs.length)
def pi(w w':World)(c:Crw)(l:List Int)(e:Ending):Prop:=Below w.heap.size w w'/\if uD c l=true then ∃ A,e = .returned (.tuple #[.pointer (some ⟨A,0,none⟩),.bool true])/\fG w' A c (bS c) (aW c) else e = .returned (.tuple #[.pointer none,.bool false])
theorem YZ(w:World)(c:Crw)(cs:List Value)(B:Nat)(l:List Int)(lo:Option Addr)(lc:Nat)(ha:ArgC w c cs B)(hl:aY aZ w lo l)(fX:l.length<=1000000) :
  Calls Tryz.prog 87 #[.agg cs.toArray,.slice lo l.length lc] w fun e w'=>pi w w' c l e:=by
 have iT:=I (fun W (hW:Below w.heap.size w W)=>Lf W c cs (ha.below hW).crw B (ha.below hW).tab ha.ok);have iC:=ha.nu;have cU:=I (fun(h:bG c=true)=>qP h (by omega));have nM:=I (fun(h:bG c=true)=>tL h);have vD:=I ha;have lE:=ha.ok.nq;have jI:=ha.ok.nm;have bJ:Hid (uD c l=(bG c&&!l.any (fun q=>!cM q c.qs.length))):=I rfl;have fQ:=I (fun W (hW:Below w.heap.size w W)=>hl.below hW);have Qy:Hid (∀ e w',pi w w' c l e↔(Below w.heap.size w w'/\if uD c l=true then ∃ A,e = .returned (.tuple #[.pointer (some ⟨A,0,none⟩),.bool true])/\fG w' A c (bS c) (aW c) else e = .returned (.tuple #[.pointer none,.bool false]))):=I (fun _ _=>Iff.rfl);clear hl;generalize uD c l=PA at *;obtain⟨qo,qc,mo,mc,uo,uc,rfl,dL,cN,dN,-⟩:=ha.crw;have nA:=I (fun W (hW:Below w.heap.size w W)=>cN.below hW);have jJ:=I (fun W (hW:Below w.heap.size w W)=>dN.below hW);unfold Fm at iT;clear ha dL cN dN;generalize eW:c.qs.length=nq at *;generalize cY:c.ms.length=nm at *;generalize dH:c.us.length=nu at *;have wN:=I eW;have fF:=I cY;have dZ:=I dH;clear eW cY dH;generalize iM:bG c=vc at *;have lD:=I iM;clear iM;have X1:=hnw w 26 [.slice qo nq qc,.slice mo nm mc,.slice uo nu uc];have B1:=I (bwA w (.cells #[.slice qo nq qc,.slice mo nm mc,.slice uo nu uc] 26))
 go_enter Tryz.func87,Tryz.ntmps87
 go_upto_region 1 with(fail)
 generalize w.alloc (.cells #[.slice qo nq qc,.slice mo nm mc,.slice uo nu uc] 26)=w1 at *;obtain⟨c0,c1,c2⟩:=X1.o.c3;have cA:=I (iT.o w1 B1.o);clear iT
 go_wp2_with fail
 refine cA.o.mono ?_;intro e w2 hq;obtain⟨aN,b2⟩:=hq;have B2:=B1.tr b2;have X2:=X1.st b2;have mA:Hid (w.heap.size<w2.heap.size):=I X2.o.lt;clear b2 c0 c1 c2 B1 X1 cA
 cases vc with
 | false =>
  rw[if_neg (by decide)] at aN;subst aN;have bK:Hid (PA=false):=I (by rw[bJ.o];rfl);clear bJ
  go_wp2_with fail
  go_ret2
  exact(Qy.o _ _).2 ⟨B2.o,by rw[bK.o];rfl⟩
 | true =>
  rw[if_pos rfl] at aN;obtain⟨A,rfl,hR,-⟩:=aN;have HR:=I hR;have cV:=I (cU.o rfl);clear hR cU;have lT:=I (fa w2 l lo l.length lc rfl fX (fQ.o w2 B2.o) _ _ _ _ _ (Zxn w.heap.size qo mo uo nq nm nu qc mc uc (by omega)) (fun _ _=>trivial) X2.o);have bK:Hid (PA=!l.any (fun q=>!cM q nq)):=I (by rw[bJ.o];rfl);clear bJ;generalize l.any (fun q=>!cM q nq)=bt at *;generalize l.length=nl at *
  go_wp2_with fail
  refine lT.o.mono ?_;rintro e w3 ⟨rfl,b3⟩;have B3:=B2.tr b3;have yB:=I (HR.o.below b3);clear b3 lT
  cases bt with
  | true =>
   have vF:Hid (PA=false):=I (by rw[bK.o];rfl)
   go_wp2_with fail
   go_ret2
   exact(Qy.o _ _).2 ⟨B3.o,by rw[vF.o];rfl⟩
  | false =>
   have vF:Hid (PA=true):=I (by rw[bK.o];rfl)
   go_wp2_with fail
   go_ret2
   exact(Qy.o _ _).2 ⟨B3.o,by rw[vF.o];exact⟨A,rfl,yB.o⟩⟩
theorem ZA(w:World)(c:Crw)(cs:List Value)(l:List Int)(lo:Option Addr)(lc:Nat)(hc:mO w c cs)(dH:c.us.length<=1000000000)(hl:aY aZ w lo l)(fX:l.length<=1000000) :
  Calls Tryz.prog 98 #[.agg cs.toArray,.slice lo l.length lc] w fun e w'=>e = .returned (.bool (!l.any (fun q=>!cM q c.us.length)))/\Below w.heap.size w w':=by
 obtain⟨qo,qc,mo,mc,uo,uc,rfl,-,-,-⟩:=hc;have X1:=hnw w 26 [.slice qo c.qs.length qc,.slice mo c.ms.length mc,.slice uo c.us.length uc];have bx:=bwA w (.cells #[.slice qo c.qs.length qc,.slice mo c.ms.length mc,.slice uo c.us.length uc] 26);have B1:=I bx;have lT:=I (fa _ l lo l.length lc rfl fX (hl.below bx) _ _ _ _ _ (Zxo w.heap.size qo mo uo c.qs.length c.ms.length c.us.length qc mc uc dH) (fun _ _=>trivial) X1.o);clear bx hl;generalize l.any (fun q=>!cM q c.us.length)=bt at *;generalize l.length=nl at *;generalize c.qs.length=nq at *;generalize c.ms.length=nm at *;generalize c.us.length=nu at *
 go_enter Tryz.func98,Tryz.ntmps98
 go_upto_region 1 with(fail)
 generalize w.alloc (.cells #[.slice qo nq qc,.slice mo nm mc,.slice uo nu uc] 26)=w1 at *
 go_wp2_with fail
 refine lT.o.mono ?_;rintro e w3 ⟨rfl,b3⟩;have B3:=B1.tr b3;clear b3 lT
 go_wp2_with fail
 go_ret;exact⟨rfl,B3.o⟩
end
section
open Go.RowKit Go.Sort Go.Maps
def Fo(c:Crw)(q:Int)(k:Nat):Bool:=((bS c).getD q.toNat []).getD k false
def fd(c:Crw)(l:List Int)(k:Nat):Bool:=!l.any (fun q=>!Fo c q k)
def fe(c:Crw)(l:List Int)(k:Nat):Bool:=l.any (fun q=>Fo c q k)
def pj(c:Crw)(l:List Int):List Nat:=if uD c l=true then(List.range c.ms.length).filter (fd c l) else []
def pk(c:Crw)(l:List Int):Nat:=if uD c l=true then(List.range c.ms.length).countP (fe c l) else 0
def pm(W:World)(R M A:Nat)(c:Crw)(k:Nat):Prop:=aC W R 102 [.pointer (some ⟨A,0,none⟩)]/\aC W M 3 [.int .i64 (k:Int)]/\fG W A c (bS c) (aW c)
theorem Zxp(R M A:Nat)(c:Crw)(k:Nat)(hk:k<c.ms.length)(hn:c.ms.length<=1000000)(hq:c.qs.length<=1000000) :
  intFn (fun W=>pm W R M A c k) 90 #[.pointer (some ⟨R,0,none⟩),.pointer (some ⟨M,0,none⟩)] (fun q=>!Fo c q k) (fun q=>cM q c.qs.length=true):=by
 refine⟨enters_of Tryz.func90 (by kernel_rfl) rfl,fun w w' h hb=>⟨h.1.step hb,h.2.1.step hb,h.2.2.below hb⟩,fun q w hS hT=>?_⟩;obtain⟨h1,h2,qo,mo,uo,ho,co,qc,mc,uc,hc,cc,hA,hR,-⟩:=hT;obtain⟨j,rfl,hj⟩:=oZ hS;obtain⟨row,aS⟩:∃ y,(bS c)[j]?=some y:=⟨_,aL (by rw[Td];exact hj)⟩;have gC:row.length=c.ms.length:=Wj row (bU aS);obtain⟨gh,oh,bo,bc,Mf,Xr,fS,iA⟩:=hR.h.at j row aS;have a3:=hA.cell 3 _ rfl;rw[Mf,Td] at a3;rw[gC] at fS;obtain⟨gb,ob,dE,iR⟩:=iA.bool k (by rw[gC];exact hk);rw[dE] at fS
 have HV:Hid (Fo c (j:Int) k=row.getD k false):=I (by
  unfold Fo
  rw[Int.toNat_natCast,bR (l:=bS c),aS];rfl)
 generalize Fo c (j:Int) k=hb at *;generalize row.getD k false=rb at *;have fZ:=I HV.o;have r0:=h1.cell 0 _ rfl;have m0:=h2.cell 0 _ rfl
 have jj:(j:Int)<(c.qs.length:Nat):=by omega
 have kk:(k:Int)<(c.ms.length:Nat):=by omega
 generalize c.qs.length=nq at *;generalize c.ms.length=nm at *;clear h1 h2 hA hR aS gC Mf Xr dE iA hS;subst hb;cases rb <;>
 ·go_enter Tryz.func90,Tryz.ntmps90
  go_upto_region 1 with(fail)
  go_quiet (fail)
  go_wp2_with fail
  go_ret;exact⟨rfl,below_drewN (aG _ _) _⟩
theorem Zt4(R M A:Nat)(c:Crw)(k:Nat)(hk:k<c.ms.length)(hn:c.ms.length<=1000000)(hq:c.qs.length<=1000000) :
  intFn (fun W=>pm W R M A c k) 89 #[.pointer (some ⟨R,0,none⟩),.pointer (some ⟨M,0,none⟩)] (fun q=>Fo c q k) (fun q=>cM q c.qs.length=true):=by
 refine⟨enters_of Tryz.func89 (by kernel_rfl) rfl,fun w w' h hb=>⟨h.1.step hb,h.2.1.step hb,h.2.2.below hb⟩,fun q w hS hT=>?_⟩;obtain⟨h1,h2,qo,mo,uo,ho,co,qc,mc,uc,hc,cc,hA,hR,-⟩:=hT;obtain⟨j,rfl,hj⟩:=oZ hS;obtain⟨row,aS⟩:∃ y,(bS c)[j]?=some y:=⟨_,aL (by rw[Td];exact hj)⟩;have gC:row.length=c.ms.length:=Wj row (bU aS);obtain⟨gh,oh,bo,bc,Mf,Xr,fS,iA⟩:=hR.h.at j row aS;have a3:=hA.cell 3 _ rfl;rw[Mf,Td] at a3;rw[gC] at fS;obtain⟨gb,ob,dE,iR⟩:=iA.bool k (by rw[gC];exact hk);rw[dE] at fS
 have HV:Hid (Fo c (j:Int) k=row.getD k false):=I (by
  unfold Fo
  rw[Int.toNat_natCast,bR (l:=bS c),aS];rfl)
 generalize Fo c (j:Int) k=hb at *;generalize row.getD k false=rb at *;have fZ:=I HV.o;have r0:=h1.cell 0 _ rfl;have m0:=h2.cell 0 _ rfl
 have jj:(j:Int)<(c.qs.length:Nat):=by omega
 have kk:(k:Int)<(c.ms.length:Nat):=by omega
 generalize c.qs.length=nq at *;generalize c.ms.length=nm at *;clear h1 h2 hA hR aS gC Mf Xr dE iA hS;subst hb;cases rb <;>
 ·go_enter Tryz.func89,Tryz.ntmps89
  go_upto_region 1 with(fail)
  go_quiet (fail)
  go_wp2_with fail
  go_ret;exact⟨rfl,below_drewN (aG _ _) _⟩
theorem Zm7(p:Nat->Bool)(k:Nat):(List.range (k+1)).countP p=(List.range k).countP p+(if p k=true then 1 else 0):=by
 rw[List.range_succ,List.countP_append,List.countP_singleton]
theorem Z0l(w:World)(c:Crw)(cs:List Value)(B:Nat)(l:List Int)(lo:Option Addr)(lc:Nat)(ha:ArgC w c cs B)(hl:aY aZ w lo l)(fX:l.length<=1000000) :
  Calls Tryz.prog 29 #[.agg cs.toArray,.slice lo l.length lc] w fun e w'=>xB w w' (pj c l) e:=by
 have bJ:Hid (pj c l=if uD c l=true then(List.range c.ms.length).filter (fd c l) else []):=I rfl;generalize pj c l=PA at *;have zM:=I (fun W (hW:Below w.heap.size w W)=>YZ W c cs B l lo lc (ha.below hW) (hl.below hW) fX);have fQ:=I (fun W (hW:Below w.heap.size w W)=>hl.below hW);have jI:=ha.ok.nm;have lE:=ha.ok.nq
 have nM:Hid (uD c l=true->c.ms.length<=64/\∀ q∈l,cM q c.qs.length=true):=I (fun h=>by
  unfold uD at h;rw[dB,Bool.not_eq_true',List.any_eq_false] at h
  exact⟨(tL h.1).2.1,fun q hq=>by have:=h.2 q hq;simpa using this⟩)
 obtain⟨qo,qc,mo,mc,uo,uc,rfl,-,-,-⟩:=ha.crw;unfold pi at zM;clear ha hl;generalize xg:uD c l=pa at *;clear xg;have X1:=hnw w 26 [.slice qo c.qs.length qc,.slice mo c.ms.length mc,.slice uo c.us.length uc];have B1:=I (bwA w (.cells #[.slice qo c.qs.length qc,.slice mo c.ms.length mc,.slice uo c.us.length uc] 26))
 go_enter Tryz.func29,Tryz.ntmps29
 go_upto_region 1 with(fail)
 generalize w.alloc (.cells #[.slice qo c.qs.length qc,.slice mo c.ms.length mc,.slice uo c.us.length uc] 26)=w1 at *;obtain⟨c0,c1,c2⟩:=X1.o.c3;have cA:=I (zM.o w1 B1.o);clear zM
 go_wp2_with fail
 refine cA.o.mono ?_;intro e w2 hq;obtain⟨b2,aN⟩:=hq;have B2:=B1.tr b2;have X2:=X1.st b2;clear b2 c0 c1 c2 B1 X1 cA
 cases pa with
 | false =>
  rw[if_neg (by decide)] at aN;subst aN;have bK:Hid (PA=[]):=I (by rw[bJ.o];rfl);clear bJ
  go_wp2_with fail
  go_ret;exact xB.nil bK.o (B2.o.alloc B2.o.size _)
 | true =>
  rw[if_pos rfl] at aN;obtain⟨A,rfl,hR⟩:=aN;have bK:Hid (PA=(List.range c.ms.length).filter (fd c l)):=I (by rw[bJ.o];rfl);obtain⟨cY,Dc⟩:=nM.o (by first | rfl | trivial);have mZ:=I Dc;clear bJ nM Dc;have bz:=bwA w2 (.cells #[.pointer (some ⟨A,0,none⟩)] 102);have R3:=hnw w2 102 [.pointer (some ⟨A,0,none⟩)];have yB:=I (hR.below bz);have X3:=X2.st bz;have B3:=B2.tr bz;clear bz hR X2 B2
  go_upto_region 4 with(fail)
  generalize w2.alloc (.cells #[.pointer (some ⟨A,0,none⟩)] 102)=w3 at *;generalize w2.heap.size=RB at *;have c1:=X3.o.cell 1 _ rfl;have Qz:Hid (∀ k,fd c l k=!l.any (fun q=>!Fo c q k)):=I (fun k=>rfl);generalize Kc:fd c l=pb at *;clear Kc;have rW:Hid (∀ (M k:Nat),k<c.ms.length->intFn (fun W=>pm W RB M A c k) 90 #[.pointer (some ⟨RB,0,none⟩),.pointer (some ⟨M,0,none⟩)] (fun q=>!Fo c q k) (fun q=>cM q c.qs.length=true)):=I (fun M k hk=>Zxp RB M A c k hk (by omega) (by omega));generalize c.ms.length=nm at *;generalize wR:l.length=nl at *;have sZ:=I wR;clear wR
  go_wp2_with fail
  clear c1
  go_loopw [19,4] (fun kv ov wr=>∃ (k:Nat) (n:Nat) (o:Option Addr) (cap:Nat),kv = .int .i64 k/\ov = .slice o n cap/\k<=nm/\n<=k/\Hid (((List.range k).filter pb).length=n)/\Hid (OwnK wr w3.heap.size 1 n cap (bE ((List.range k).filter pb)) o)/\Hid (Below w3.heap.size w3 wr)) (fun k _ _=>(nm-intOf k).toNat)
  case atStart=>exact⟨0,0,none,0,rfl,rfl,by omega,aO _,I rfl,I (.nil rfl rfl rfl),I (aG _ _)⟩
  case round =>
   obtain⟨k,n,o,cap,rfl,rfl,hk,hn,HN,HO,HB⟩:=hrel;have e2:=w1i k (by omega);by_cases bT:k<nm
   ·have kk:(k:Int)<nm:=by omega
    have dY:=I (We pb k);have bx:=bwA wr (.cells #[.int .i64 (k:Int)] 3);have M4:=hnw wr 3 [.int .i64 (k:Int)];have B4:=HB.tr bx;have O4:=I (HO.o.below (by exact bx));clear bx
    go_upto_region 7 with(fail)
    generalize wr.alloc (.cells #[.int .i64 (k:Int)] 3)=w4 at *;generalize wr.heap.size=MB at *;have lT:=I (fa w4 l lo l.length lc rfl (by rw[sZ.o];exact fX) (fQ.o w4 (B3.o.trans (B4.o.mono B3.o.size))) _ _ _ _ _ (rW.o MB k bT) mZ.o ⟨R3.o.step B4.o,M4.o,yB.o.below B4.o⟩);rw[sZ.o] at lT;have lB:=Qz.o k;generalize l.any (fun q=>!Fo c q k)=bt at *;have lB:=I lB
    go_wp2_with fail
    refine lT.o.mono ?_;rintro e w5 ⟨rfl,b5⟩;have B6:=B4.tr b5;have M6:=I (M4.o.step b5);have O5:=I (O4.o.below b5);clear b5 lT B4 M4
    cases bt with
    | true =>
     have gH:Hid (pb k=false):=I (by rw[lB.o];rfl)
     go_wp2_with fail
     go_roundw
     case rel=>exact⟨k+1,n,o,cap,by go_num,rfl,by omega,by omega,I (by rw[dY.o,gH.o];exact HN.o),I (by rw[dY.o,gH.o];exact O5.o),B6⟩
     case measure=>simp only[intOf];omega
    | false =>
     have gH:Hid (pb k=true):=I (by rw[lB.o];rfl);have m0:=M6.o.cell 0 _ rfl
     go_upto_region 9 with(at_builtin;refine jM 33 3 (.int .i64 0) 1 8 Tryz.underlying33 sE rfl (by omega) (by omega) w5 w3.heap.size rfl (.tmp 26) (.tmp 28) rfl o cap n (bE ((List.range k).filter pb)) ?q1 O5.o B6.o.size 1 1 #[.int .i64 (k:Int)] 3 ?q2 rfl (by omega) ?q3 ?q4 ?_;(case q1=>rfl);(case q2=>rfl);(case q3=>simp[Value.oneCell']);(case q4=>omega);intro g5 off5 c5 wa o8 aX b8 bW;have O8:=I o8;have B8:=I (B6.o.trans b8);clear o8 aX b8 bW)
     go_wp2_with fail
     go_roundw
     case rel=>exact⟨k+1,n+1,_,_,by go_num,rfl,by omega,by omega,I (by rw[dY.o,gH.o,if_pos rfl,gL,HN.o];rfl),I (by rw[dY.o,gH.o,if_pos rfl,<- Hs];exact O8.o),B8⟩
     case measure=>simp only[intOf];omega
   ·have kk:¬ (k:Int)<nm:=by omega
    obtain rfl:nm=k:=by omega
    go_wp2_with fail
    go_ret;rw[bK.o];exact⟨⟨o,cap,by rw[HN.o];rfl,by rw[HN.o];exact HO.o.low B3.o.size⟩,B3.o.trans (HB.o.mono B3.o.size)⟩
theorem Zxq(w:World)(c:Crw)(cs:List Value)(B:Nat)(l:List Int)(lo:Option Addr)(lc:Nat)(ha:ArgC w c cs B)(hl:aY aZ w lo l)(fX:l.length<=1000000) :
  Calls Tryz.prog 28 #[.agg cs.toArray,.slice lo l.length lc] w fun e w'=>e = .returned (.tuple #[.int .i64 ((pk c l:Nat):Int),.bool (uD c l)])/\Below w.heap.size w w':=by
 have bJ:Hid (pk c l=if uD c l=true then(List.range c.ms.length).countP (fe c l) else 0):=I rfl;generalize pk c l=PA at *;have zM:=I (fun W (hW:Below w.heap.size w W)=>YZ W c cs B l lo lc (ha.below hW) (hl.below hW) fX);have fQ:=I (fun W (hW:Below w.heap.size w W)=>hl.below hW);have jI:=ha.ok.nm;have lE:=ha.ok.nq
 have nM:Hid (uD c l=true->c.ms.length<=64/\∀ q∈l,cM q c.qs.length=true):=I (fun h=>by
  unfold uD at h;rw[dB,Bool.not_eq_true',List.any_eq_false] at h
  exact⟨(tL h.1).2.1,fun q hq=>by have:=h.2 q hq;simpa using this⟩)
 obtain⟨qo,qc,mo,mc,uo,uc,rfl,-,-,-⟩:=ha.crw;unfold pi at zM;clear ha hl;generalize xg:uD c l=pa at *;clear xg;have X1:=hnw w 26 [.slice qo c.qs.length qc,.slice mo c.ms.length mc,.slice uo c.us.length uc];have B1:=I (bwA w (.cells #[.slice qo c.qs.length qc,.slice mo c.ms.length mc,.slice uo c.us.length uc] 26))
 go_enter Tryz.func28,Tryz.ntmps28
 go_upto_region 1 with(fail)
 generalize w.alloc (.cells #[.slice qo c.qs.length qc,.slice mo c.ms.length mc,.slice uo c.us.length uc] 26)=w1 at *;obtain⟨c0,c1,c2⟩:=X1.o.c3;have cA:=I (zM.o w1 B1.o);clear zM
 go_wp2_with fail
 refine cA.o.mono ?_;intro e w2 hq;obtain⟨b2,aN⟩:=hq;have B2:=B1.tr b2;have X2:=X1.st b2;clear b2 c0 c1 c2 B1 X1 cA
 cases pa with
 | false =>
  rw[if_neg (by decide)] at aN;subst aN;have bK:Hid (PA=0):=I (by rw[bJ.o];rfl);clear bJ
  go_wp2_with fail
  go_ret2
  exact⟨by rw[bK.o];rfl,B2.o.alloc B2.o.size _⟩
 | true =>
  rw[if_pos rfl] at aN;obtain⟨A,rfl,hR⟩:=aN;have bK:Hid (PA=(List.range c.ms.length).countP (fe c l)):=I (by rw[bJ.o];rfl);obtain⟨cY,Dc⟩:=nM.o (by first | rfl | trivial);have mZ:=I Dc;clear bJ nM Dc;have bz:=bwA w2 (.cells #[.pointer (some ⟨A,0,none⟩)] 102);have R3:=hnw w2 102 [.pointer (some ⟨A,0,none⟩)];have yB:=I (hR.below bz);have X3:=X2.st bz;have B3:=B2.tr bz;clear bz hR X2 B2
  go_upto_region 4 with(fail)
  generalize w2.alloc (.cells #[.pointer (some ⟨A,0,none⟩)] 102)=w3 at *;generalize w2.heap.size=RB at *;have c1:=X3.o.cell 1 _ rfl;have Qz:Hid (∀ k,fe c l k=l.any (fun q=>Fo c q k)):=I (fun k=>rfl);generalize Kc:fe c l=pb at *;clear Kc;have rW:Hid (∀ (M k:Nat),k<c.ms.length->intFn (fun W=>pm W RB M A c k) 89 #[.pointer (some ⟨RB,0,none⟩),.pointer (some ⟨M,0,none⟩)] (fun q=>Fo c q k) (fun q=>cM q c.qs.length=true)):=I (fun M k hk=>Zt4 RB M A c k hk (by omega) (by omega));generalize c.ms.length=nm at *;generalize wR:l.length=nl at *;have sZ:=I wR;clear wR
  go_wp2_with fail
  clear c1
  go_loopw [19,4] (fun kv ov wr=>∃ (k:Nat) (n:Nat),kv = .int .i64 k/\ov = .int .i64 n/\k<=nm/\n<=k/\Hid ((List.range k).countP pb=n)/\Hid (Below w3.heap.size w3 wr)) (fun k _ _=>(nm-intOf k).toNat)
  case atStart=>exact⟨0,0,rfl,rfl,by omega,aO _,I rfl,I (aG _ _)⟩
  case round =>
   obtain⟨k,n,rfl,rfl,hk,hn,HN,HB⟩:=hrel;have e2:=w1i k (by omega);by_cases bT:k<nm
   ·have kk:(k:Int)<nm:=by omega
    have dY:=I (Zm7 pb k);have bx:=bwA wr (.cells #[.int .i64 (k:Int)] 3);have M4:=hnw wr 3 [.int .i64 (k:Int)];have B4:=HB.tr bx;clear bx
    go_upto_region 7 with(fail)
    generalize wr.alloc (.cells #[.int .i64 (k:Int)] 3)=w4 at *;generalize wr.heap.size=MB at *;have lT:=I (fa w4 l lo l.length lc rfl (by rw[sZ.o];exact fX) (fQ.o w4 (B3.o.trans (B4.o.mono B3.o.size))) _ _ _ _ _ (rW.o MB k bT) mZ.o ⟨R3.o.step B4.o,M4.o,yB.o.below B4.o⟩);rw[sZ.o] at lT;have lB:=Qz.o k;generalize l.any (fun q=>Fo c q k)=bt at *;have lB:=I lB
    go_wp2_with fail
    refine lT.o.mono ?_;rintro e w5 ⟨rfl,b5⟩;have B6:=B4.tr b5;have M6:=I (M4.o.step b5);clear b5 lT B4 M4
    cases bt with
    | false =>
     have gH:Hid (pb k=false):=I (by rw[lB.o])
     go_wp2_with fail
     go_roundw
     case rel=>exact⟨k+1,n,by go_num,rfl,by omega,by omega,I (by rw[dY.o,gH.o];exact HN.o),B6⟩
     case measure=>simp only[intOf];omega
    | true =>
     have gH:Hid (pb k=true):=I (by rw[lB.o]);have e3:=w1i n (by omega)
     go_wp2_with fail
     go_roundw
     case rel=>exact⟨k+1,n+1,by go_num,by go_num,by omega,by omega,I (by rw[dY.o,gH.o,if_pos rfl,HN.o]),B6⟩
     case measure=>simp only[intOf];omega
   ·have kk:¬ (k:Int)<nm:=by omega
    obtain rfl:nm=k:=by omega
    go_wp2_with fail
    go_ret2
    rw[bK.o,HN.o];exact⟨rfl,B3.o.trans (HB.o.mono B3.o.size)⟩
end
section
open Go.RowKit Go.Sort Go.Maps
def pC(c:Crw)(x:Use):Bool:=bG c&&nG c.qs.length c.ms.length x
def ff(w w':World)(c:Crw)(cs:List Value)(x:Use)(e:Ending):Prop:=Below w.heap.size w w'/\if pC c x=true then ∃ A,e = .returned (.tuple #[.pointer (some ⟨A,0,none⟩),.bool true])/\fG w' A c (bS c) (aW c)/\Sz w w' A c cs else e = .returned (.tuple #[.pointer none,.bool false])
theorem Sz.later{w w1 w2 w3:World}{A:Nat}{c:Crw}{cs:List Value}(h:Sz w1 w2 A c cs)(hb:Below w.heap.size w w1)(kO:Below w1.heap.size w1 w2)(fH:Below w2.heap.size w2 w3):Sz w w3 A c cs:=fun w0 Q hc nL hQ=>by
 have:=h w0 Q hc (nL.trans (hb.mono nL.size)) (fun g hg=>⟨(hQ g hg).1,by have:=(hQ g hg).2;have:=hb.size;omega⟩);exact this.only (Only.of_below fH) (fun g _ hg=>hg)
theorem FM(w:World)(c:Crw)(cs:List Value)(B:Nat)(x:Use)(ha:ArgC w c cs B) :
  Calls Tryz.prog 97 #[.agg cs.toArray,.agg (cQ x).toArray] w fun e w'=>ff w w' c cs x e:=by
 have iT:=I (fun W (hW:Below w.heap.size w W)=>Lf W c cs (ha.below hW).crw B (ha.below hW).tab ha.ok);have iC:=ha.nu;have lE:=ha.ok.nq;have jI:=ha.ok.nm;have bJ:Hid (pC c x=(bG c&&nG c.qs.length c.ms.length x)):=I rfl;have Qy:Hid (∀ e w',ff w w' c cs x e↔(Below w.heap.size w w'/\if pC c x=true then ∃ A,e = .returned (.tuple #[.pointer (some ⟨A,0,none⟩),.bool true])/\fG w' A c (bS c) (aW c)/\Sz w w' A c cs else e = .returned (.tuple #[.pointer none,.bool false]))):=I (fun _ _=>Iff.rfl);generalize pC c x=PA at *;have pL:=I (fun W qo mo uo qc mc uc=>EB W qo mo uo c.qs.length c.ms.length c.us.length qc mc uc x (by omega) (by omega));obtain⟨qo,qc,mo,mc,uo,uc,rfl,dL,cN,dN,-⟩:=ha.crw;unfold Fm at iT;clear ha dL cN dN;generalize eW:c.qs.length=nq at *;generalize cY:c.ms.length=nm at *;generalize dH:c.us.length=nu at *;clear eW cY dH;generalize iM:bG c=vc at *;clear iM;have mX:Hid (cQ x=[.int .i64 x.q,.int .i64 x.w,.int .i64 x.f,.int .i64 x.h]):=I rfl;generalize nG nq nm x=vu at *;rw[mX.o] at pL ⊢;obtain⟨X1,U1,B1⟩:=Ht w 26 39 [.slice qo nq qc,.slice mo nm mc,.slice uo nu uc] [.int .i64 x.q,.int .i64 x.w,.int .i64 x.f,.int .i64 x.h];have X1:=I X1;have U1:=I U1;have B1:=I B1;clear mX;generalize x.w=x1 at *;generalize x.f=x2 at *;generalize x.h=x3 at *;generalize x.q=x0 at *
 go_enter Tryz.func97,Tryz.ntmps97
 go_upto_region 1 with(fail)
 generalize (w.alloc (.cells #[.slice qo nq qc,.slice mo nm mc,.slice uo nu uc] 26)).alloc (.cells #[.int .i64 x0,.int .i64 x1,.int .i64 x2,.int .i64 x3] 39)=w1 at *;obtain⟨c0,c1,c2⟩:=X1.o.c3;have cA:=I (iT.o w1 B1.o);clear iT
 go_wp2_with fail
 refine cA.o.mono ?_;intro e w2 hq;obtain⟨aN,b2⟩:=hq;have B2:=B1.tr b2;have X2:=X1.st b2;have U2:=I (U1.o.step b2);have BP:=I (And.intro B1.o b2);clear b2 c0 c1 c2 B1 X1 U1 cA
 cases vc with
 | false =>
  rw[if_neg (by decide)] at aN;subst aN;have bK:Hid (PA=false):=I (by rw[bJ.o];rfl);clear bJ
  go_wp2_with fail
  go_ret2
  exact(Qy.o _ _).2 ⟨B2.o,by rw[bK.o];rfl⟩
 | true =>
  rw[if_pos rfl] at aN;obtain⟨A,rfl,hR,hAA,hF⟩:=aN;have HR:=I hR;have HF:=I hF;clear hR hF hAA;obtain⟨c0,c1,c2⟩:=X2.o.c3;obtain⟨p0,p1,p2,p3⟩:=U2.o.c4;have Cy:=I (pL.o w2 qo mo uo qc mc uc)
  have n4:¬ (4096:Int)<=(nu:Int):=by omega
  have n5:decide ((4096:Int)<=(nu:Int))=false:=decide_eq_false n4
  go_wp2_with fail
  refine Cy.o.mono ?_;rintro e w3 ⟨rfl,b3⟩;have B3:=B2.tr b3;have yB:=I (HR.o.below b3);have Ra:=I (HF.o.later BP.o.1 BP.o.2 b3);clear b3 c0 c1 c2 p0 p1 p2 p3 Cy pL
  cases vu with
  | false =>
   have bK:Hid (PA=false):=I (by rw[bJ.o];rfl)
   go_wp2_with fail
   go_ret2
   exact(Qy.o _ _).2 ⟨B3.o,by rw[bK.o];rfl⟩
  | true =>
   have bK:Hid (PA=true):=I (by rw[bJ.o];rfl)
   go_wp2_with fail
   go_ret2
   exact(Qy.o _ _).2 ⟨B3.o,by rw[bK.o];exact⟨A,rfl,yB.o,Ra.o⟩⟩
def pp(c:Crw)(x:Use):List Nat:=if pC c x=true then iN (jE c x) (aW c++[eY c (bS c) x]) c.us.length else []
theorem ZB{c:Crw}{C:List (List Bool)}(h:ReckOk c C){x:Use}(hw:0<=x.w/\x.w<=15){r:List Bool}(hr:r.length=c.ms.length)(hu:c.us.length<=999):ReckOk (jE c x) (C++[r]) :=
 ⟨by show(C++[r]).length=(c.us++[x]).length;rw[gL,gL,h.len];rfl,fun s hs=>by
  rcases kI.1 hs with h1 | h1
  ·exact h.row s h1
  ·rw[List.mem_singleton] at h1;subst h1;exact hr,fun y hy=>by
  have hy:y∈c.us++[x]:=hy;rcases kI.1 hy with h1 | h1
  ·exact h.win y h1
  ·rw[List.mem_singleton] at h1;subst h1;exact hw,h.tic,h.nm,by show(c.us++[x]).length<=1000;rw[gL];show c.us.length+1<=1000;omega⟩
theorem pq(v0 v1 v2 v3:Value):(Tryz.prog.info? 39).map (·.size)=some #[v0,v1,v2,v3].size:=by
 show _=some 4
 kernel_rfl
theorem Z0n(w:World)(c:Crw)(cs:List Value)(B:Nat)(x:Use)(ha:ArgC w c cs B) :
  Calls Tryz.prog 39 #[.agg cs.toArray,.agg (cQ x).toArray] w fun e w'=>xB w w' (pp c x) e:=by
 have gO:=I (fun W (hW:Below w.heap.size w W)=>FM W c cs B x (ha.below hW));have iC:=ha.nu;have lE:=ha.ok.nq;have jI:=ha.ok.nm;have bJ:Hid (pp c x=if pC c x=true then iN (jE c x) (aW c++[eY c (bS c) x]) c.us.length else []):=I rfl;have Ly:Hid (pC c x=true->bG c=true/\nG c.qs.length c.ms.length x=true):=I (fun h=>by unfold pC at h;rwa [dB] at h)
 have Rb:Hid (∀ W A,fG W A c (bS c) (aW c)->pC c x=true->Calls Tryz.prog 109 #[.pointer (some ⟨A,0,none⟩),.agg (cQ x).toArray] W fun e w'=>∃ X,e = .returned (.pointer (some ⟨X,0,none⟩))/\fG w' X (jE c x) (bS c) (aW c++[eY c (bS c) x])/\W.heap.size<=X/\Below W.heap.size W w'):=I (fun W A h hp=>by
  obtain⟨h1,h2⟩:=Ly.o hp;have hq:=Le h2
  exact YE W A c (bS c) (aW c) x h hq.1 (by rw[Td];exact hq.2.1) Wj jI (by omega) (by rw[(qP h1 (by omega)).len];omega))
 have gP:Hid (∀ W X,fG W X (jE c x) (bS c) (aW c++[eY c (bS c) x])->pC c x=true->Calls Tryz.prog 86 #[.pointer (some ⟨X,0,none⟩),.int .i64 c.us.length] W fun e w'=>(∃ o cap,e = .returned (.slice o (iN (jE c x) (aW c++[eY c (bS c) x]) c.us.length).length cap)/\OwnK w' W.heap.size 1 (iN (jE c x) (aW c++[eY c (bS c) x]) c.us.length).length cap (bE (iN (jE c x) (aW c++[eY c (bS c) x]) c.us.length)) o)/\Below W.heap.size W w'):=I (fun W X h hp=>by
  obtain⟨h1,h2⟩:=Ly.o hp;have hq:=Le h2
  exact oy W X (jE c x) (bS c) (aW c++[eY c (bS c) x]) c.us.length h (ZB (qP h1 (by omega)) ⟨hq.2.2.1,hq.2.2.2.1⟩ (Sy _ _ _) iC) (by show c.us.length<(c.us++[x]).length;rw[gL];exact Nat.lt_succ_self _))
 obtain⟨qo,qc,mo,mc,uo,uc,rfl,-,-,-⟩:=ha.crw;unfold ff at gO;clear ha Ly;generalize pp c x=PA at *;generalize iN (jE c x) (aW c++[eY c (bS c) x]) c.us.length=PF at *;have mX:Hid (cQ x=[.int .i64 x.q,.int .i64 x.w,.int .i64 x.f,.int .i64 x.h]):=I rfl;rw[mX.o] at Rb gO ⊢;generalize Kc:pC c x=pb at *;clear Kc;generalize c.qs.length=nq at *;generalize c.ms.length=nm at *;generalize c.us.length=nu at *;obtain⟨X1,U1,B1⟩:=Ht w 26 39 [.slice qo nq qc,.slice mo nm mc,.slice uo nu uc] [.int .i64 x.q,.int .i64 x.w,.int .i64 x.f,.int .i64 x.h];have X1:=I X1;have U1:=I U1;have B1:=I B1;clear mX;generalize Yi:jE c x=CX at *;generalize J9:eY c (bS c) x=RX at *;clear Yi J9;generalize x.w=x1 at *;generalize x.f=x2 at *;generalize x.h=x3 at *;generalize x.q=x0 at *
 go_enter Tryz.func39,Tryz.ntmps39
 go_upto_region 1 with(fail)
 generalize (w.alloc (.cells #[.slice qo nq qc,.slice mo nm mc,.slice uo nu uc] 26)).alloc (.cells #[.int .i64 x0,.int .i64 x1,.int .i64 x2,.int .i64 x3] 39)=w1 at *;obtain⟨c0,c1,c2⟩:=X1.o.c3;obtain⟨p0,p1,p2,p3⟩:=U1.o.c4;have cA:=I (gO.o w1 B1.o);clear gO
 go_wp2_with fail
 refine cA.o.mono ?_;intro e w2 hq;obtain⟨b2,aN⟩:=hq;have B2:=B1.tr b2;have X2:=X1.st b2;have U2:=I (U1.o.step b2);clear b2 c0 c1 c2 p0 p1 p2 p3 B1 X1 U1 cA
 cases pb with
 | false =>
  rw[if_neg (by decide)] at aN;subst aN;have bK:Hid (PA=[]):=I (by rw[bJ.o];rfl);clear bJ
  go_wp2_with fail
  go_ret;exact xB.nil bK.o B2.o
 | true =>
  rw[if_pos rfl] at aN;obtain⟨A,rfl,hR,-⟩:=aN;have HR:=I hR;clear hR;have bK:Hid (PA=PF):=I (by rw[bJ.o];rfl)
  go_upto_region 4 with(fail)
  refine SJ [0,1,3,4,5] [2,6,7] (fun w'=>aC w' w.heap.size 26 [.slice qo nq qc,.slice mo nm mc,.slice uo nu uc]/\aC w' (w.heap.size+1) 39 [.int .i64 x0,.int .i64 x1,.int .i64 x2,.int .i64 x3]) (by kernel_rfl) (by kernel_rfl) (by kernel_rfl) (fun _ _ d _ _ h=>by cases d<;>exact h) ⟨X2.o.step (aG _ _).drew,U2.o.step (aG _ _).drew⟩ ?_;simp only[iH,List.filterMap_cons,List.filterMap_nil,List.getElem?_cons_zero,List.getElem?_cons_succ,Option.map_some,List.map_cons,List.map_nil];apply Exists.intro;refine⟨?hh,?ht⟩
  case hh =>
   intro w' bM;have c2:=bM.1.cell 2 _ rfl;obtain⟨p0,p1,p2,p3⟩:=bM.2.c4;clear bM
   repeat still_step
   exact wpStill_nil rfl
  case ht =>
   have BD:=(aG w2.heap.size w2).drew;have gB:=I (Rb.o w2.drew A (HR.o.below BD) (by first | rfl | trivial));have X3:=X2.st BD;have U3:=I (U2.o.step BD);have B3:=B2.tr BD;clear BD X2 U2 B2 HR Rb;generalize w2.drew=w3 at *;refine Sp ?_
   go_wp2_with fail
   refine gB.o.mono ?_;rintro e w4 ⟨X,rfl,hX,-,b4⟩;have HX:=I hX;have X4:=X3.st b4;have U4:=I (U3.o.step b4);have B4:=B3.tr b4;have yA:=I (gP.o w4 X hX (by first | rfl | trivial));clear b4 hX gB X3 U3 B3
   go_wp2_with fail
   refine aI ⟨⟨X4.o,U4.o⟩,?_⟩;refine Sp ?_
   go_wp2_with fail
   refine yA.o.mono ?_;rintro e w5 ⟨⟨o,cap,rfl,ho⟩,b5⟩;have HO:=I (ho.low (B':=w.heap.size) B4.o.size);have B5:=B4.tr b5;have X5:=X4.st b5;have U5:=I (U4.o.step b5);clear b5 ho yA
   go_wp2_with fail
   refine aI ⟨⟨X5.o,U5.o⟩,?_⟩;refine Sp ?_
   go_wp2_with fail
   refine aI ⟨⟨X5.o,U5.o⟩,?_⟩;unfold Kv
   go_wp2
   go_ret;rw[bK.o];exact⟨⟨o,cap,rfl,HO.o⟩,B5.o⟩
end
section
open Go.RowKit Go.Sort Go.Maps
structure Wsh where
 q:Int
 l:Int
def Pa(x:Wsh):List Value:=[.int .i64 x.q,.int .i64 x.l]
theorem Z0o(x:Wsh):(Pa x).length=2:=rfl
def pZ(q:Int)(l:List Wsh):Int:=l.foldl (fun n x=>if x.q = -1\/x.q=q then max n x.l else n) 0
theorem Zt5(q:Int)(l:List Wsh)(i:Nat)(x:Wsh)(h:l[i]?=some x):pZ q (l.take (i+1))=if x.q = -1\/x.q=q then max (pZ q (l.take i)) x.l else pZ q (l.take i):=by
 unfold pZ;rw[lN,h];simp only[Option.toList_some,List.foldl_append,List.foldl_cons,List.foldl_nil]
theorem Z0p(w:World)(x:Use)(l:List Wsh)(lo:Option Addr)(lc:Nat)(hl:aY Pa w lo l)(fX:l.length<=1000000) :
  Calls Tryz.prog 157 #[.agg (cQ x).toArray,.slice lo l.length lc] w fun e w'=>e = .returned (.int .i64 (pZ x.q l))/\Below w.heap.size w w':=by
 have fQ:=I (fun W (hW:Below w.heap.size w W)=>hl.below hW);have Us:Hid (pZ x.q (l.take 0)=0):=I rfl;have xi:Hid (∀ i y,l[i]?=some y->pZ x.q (l.take (i+1))=if y.q = -1\/y.q=x.q then max (pZ x.q (l.take i)) y.l else pZ x.q (l.take i)):=I (fun i y h=>Zt5 x.q l i y h);have xj:Hid (pZ x.q (l.take l.length)=pZ x.q l):=I (by rw[List.take_length]);have tW:Hid (∀ i,i<l.length->∃ y,l[i]?=some y):=I (fun i h=>⟨_,aL h⟩);have mX:Hid (cQ x=[.int .i64 x.q,.int .i64 x.w,.int .i64 x.f,.int .i64 x.h]):=I rfl;have U1:=hnw w 39 [.int .i64 x.q,.int .i64 x.w,.int .i64 x.f,.int .i64 x.h];have B1:=I (bwA w (.cells #[.int .i64 x.q,.int .i64 x.w,.int .i64 x.f,.int .i64 x.h] 39));rw[mX.o];clear mX hl;generalize x.w=x1 at *;generalize x.f=x2 at *;generalize x.h=x3 at *;generalize x.q=x0 at *;generalize pZ x0 l=ND at *;generalize wR:l.length=nl at *;clear wR
 go_enter Tryz.func157,Tryz.ntmps157
 go_upto_region 1 with(fail)
 generalize w.alloc (.cells #[.int .i64 x0,.int .i64 x1,.int .i64 x2,.int .i64 x3] 39)=w1 at *
 go_wp2_with fail
 go_loopw [10,5] (fun iv nv wr=>∃ (i:Nat) (n:Int),iv = .int .i64 i/\nv = .int .i64 n/\i<=nl/\Hid (pZ x0 (l.take i)=n)/\Hid (aC wr w.heap.size 39 [.int .i64 x0,.int .i64 x1,.int .i64 x2,.int .i64 x3])/\Hid (Below w.heap.size w wr)) (fun i _ _=>(nl-intOf i).toNat)
 case atStart=>exact⟨0,0,rfl,rfl,by omega,Us,U1,B1⟩
 case round =>
  clear Us U1 B1;obtain⟨i,n,rfl,rfl,hi,HN,U2,B2⟩:=hrel;have e2:=w1i i (by omega);by_cases aT:i<nl
  ·have ii:(i:Int)<nl:=by omega
   obtain⟨y,hy⟩:=tW.o i aT;have dY:=xi.o i y hy;rw[HN.o] at dY;obtain⟨gl,ol,fI,dT,vE⟩:=(fQ.o wr B2.o).at Z0o i y hy;have l0:=vE 0 _ rfl;have l1:=vE 1 _ rfl;rw[Nat.add_zero] at l0;subst fI;clear vE dT hy;obtain⟨yq,yl⟩:=y;have dY:=I (show pZ x0 (l.take (i+1))=if yq = -1\/yq=x0 then max n yl else n from dY);have bx:=bwA wr (.cells #[.int .i64 yq,.int .i64 yl] 79);have Y2:=hnw wr 79 [.int .i64 yq,.int .i64 yl];have U3:=I (U2.o.step bx);have B3:=B2.tr bx;clear bx U2 B2
   go_upto_region 5 with(fail)
   clear l0 l1;generalize wr.alloc (.cells #[.int .i64 yq,.int .i64 yl] 79)=w3 at *;generalize wr.heap.size=YB at *;have y0:=Y2.o.cell 0 _ rfl;have y1:=Y2.o.cell 1 _ rfl;have u0:=U3.o.cell 0 _ rfl;by_cases h1:yq = -1
   ·subst h1
    have tE:Hid (pZ x0 (l.take (i+1))=max n yl):=I (by rw[dY.o,if_pos (.inl rfl)])
    go_wp2_with fail
    clear y0 y1 u0;go_roundw
    case rel=>exact⟨i+1,_,by go_num,rfl,by omega,tE,U3,B3⟩
    case measure=>simp only[intOf];omega
   ·have h1b:(yq==(-1:Int))=false:=by simpa using h1
    by_cases h2:yq=x0
    ·have h2b:(yq==x0)=true:=by simpa using h2
     have tE:Hid (pZ x0 (l.take (i+1))=max n yl):=I (by rw[dY.o,if_pos (.inr h2)]);clear h2
     go_wp2_with fail
     clear y0 y1 u0;go_roundw
     case rel=>exact⟨i+1,_,by go_num,rfl,by omega,tE,U3,B3⟩
     case measure=>simp only[intOf];omega
    ·have h2b:(yq==x0)=false:=by simpa using h2
     have tE:Hid (pZ x0 (l.take (i+1))=n):=I (by rw[dY.o,if_neg (fun h=>h.elim h1 h2)])
     go_wp2_with fail
     clear y0 y1 u0;go_roundw
     case rel=>exact⟨i+1,n,by go_num,rfl,by omega,tE,U3,B3⟩
     case measure=>simp only[intOf];omega
  ·have ii:¬ (i:Int)<nl:=by omega
   obtain rfl:nl=i:=by omega
   have HE:Hid (ND=n):=I (by rw[<- xj.o];exact HN.o)
   go_wp2_with fail
   go_ret;exact⟨by rw[HE.o];rfl,B2.o⟩
end
section
open Go.RowKit Go.Sort Go.Maps
def Hv(cw:Crw)(C:List (List Bool))(xw:Int)(l:List Wsh)(u:Int):Bool:=((cw.us.getD u.toNat ⟨0,0,0,0⟩).w==xw)&&decide (((iN cw C u.toNat).length:Int)<pZ (cw.us.getD u.toNat ⟨0,0,0,0⟩).q l)
def FN(W:World)(RB XB LB P:Nat)(cw:Crw)(H C:List (List Bool))(x:Use)(l:List Wsh)(lo:Option Addr)(lc:Nat):Prop:=aC W RB 102 [.pointer (some ⟨P,0,none⟩)]/\aC W XB 39 [.int .i64 x.q,.int .i64 x.w,.int .i64 x.f,.int .i64 x.h]/\aC W LB 56 [.slice lo l.length lc]/\fG W P cw H C/\aY Pa W lo l
theorem Z4g(t:Array Value)(h:t.size=30):∃ f:Nat->Value,t=#[f 0,f 1,f 2,f 3,f 4,f 5,f 6,f 7,f 8,f 9,f 10,f 11,f 12,f 13,f 14,f 15,f 16,f 17,f 18,f 19,f 20,f 21,f 22,f 23,f 24,f 25,f 26,f 27,f 28,f 29]/\∀ d,t.getD d undef=f d:=by
 obtain⟨l⟩:=t;have hl:l.length=30:=h
 have e:l=(List.range 30).map (fun i=>l.getD i undef):=by
  apply List.ext_getElem
  ·simp[hl]
  ·intro i h1 h2
   simp[List.getD,h1]
 exact⟨fun i=>l.getD i undef,congrArg List.toArray e,fun d=>by simp⟩
def bkF(yq yw yf yh nd:Int)(lo:Option Addr)(nl lc j P YB XB pn:Nat)(i:Nat)(W:World)(v:Value):Prop:=match i with
 | 0=>v = .pointer (some ⟨YB,1,none⟩)
 | 1=>v = .int .i64 yw
 | 2=>v = .pointer (some ⟨XB,1,none⟩)
 | 3=>v = .int .i64 yw
 | 4=>v = .bool true
 | 5=>v = .bool true
 | 6=>v = .pointer (some ⟨P,0,none⟩)
 | 7=>v = .int .i64 (j:Nat)
 | 8=>∃ o cap,v = .slice o pn cap
 | 9=>v = .int .i64 (pn:Nat)
 | 10=>v = .agg #[.int .i64 yq,.int .i64 yw,.int .i64 yf,.int .i64 yh]
 | 11=>v = .slice lo nl lc
 | 12=>v = .int .i64 nd
 | 13=>v = .bool (decide ((pn:Int)<nd))
 | 14=>v = .bool (decide ((pn:Int)<nd))
 | 15=>v = .bool (decide ((pn:Int)<nd))
 | _=>True
theorem Z0q(RB XB LB P:Nat)(cw:Crw)(H C:List (List Bool))(x:Use)(l:List Wsh)(lo:Option Addr)(lc:Nat)(aJ:ReckOk cw C)(fX:l.length<=1000000) :
  intFn (fun W=>FN W RB XB LB P cw H C x l lo lc) 156 #[.pointer (some ⟨RB,0,none⟩),.pointer (some ⟨XB,0,none⟩),.pointer (some ⟨LB,0,none⟩)] (fun u=>Hv cw C x.w l u) (fun u=>cM u cw.us.length=true):=by
 refine⟨enters_of Tryz.func156 (by kernel_rfl) rfl,fun w w' h hb=>⟨h.1.step hb,h.2.1.step hb,h.2.2.1.step hb,h.2.2.2.1.below hb,h.2.2.2.2.below hb⟩,fun u w hS hT=>?_⟩;obtain⟨h1,h2,h3,h4,h5⟩:=hT;obtain⟨j,rfl,hj⟩:=oZ hS;obtain⟨y,hy⟩:∃ y,cw.us[j]?=some y:=⟨_,aL hj⟩
 have KU:cw.us.getD j ⟨0,0,0,0⟩=y:=by rw[bR,hy];rfl
 have HV:Hid (Hv cw C x.w l (j:Int)=(y.w==x.w&&decide (((iN cw C j).length:Int)<pZ y.q l))):=I (by
  unfold Hv
  rw[Int.toNat_natCast,KU])
 have bx:=bwA w (.cells #[.int .i64 y.q,.int .i64 y.w,.int .i64 y.f,.int .i64 y.h] 39);have yA:Hid (∀ W,Below (w.alloc (.cells #[.int .i64 y.q,.int .i64 y.w,.int .i64 y.f,.int .i64 y.h] 39)).heap.size (w.alloc (.cells #[.int .i64 y.q,.int .i64 y.w,.int .i64 y.f,.int .i64 y.h] 39)) W->Calls Tryz.prog 86 #[.pointer (some ⟨P,0,none⟩),.int .i64 j] W fun e w'=>(∃ o cap,e = .returned (.slice o (iN cw C j).length cap))/\Below W.heap.size W w'):=I (fun W hW=>(oy W P cw H C j ((h4.below bx).below hW) aJ hj).mono (fun e w' ⟨⟨o,cap,h1,_⟩,h2⟩=>⟨⟨o,cap,h1⟩,h2⟩));have xi:Hid (∀ W,Below (w.alloc (.cells #[.int .i64 y.q,.int .i64 y.w,.int .i64 y.f,.int .i64 y.h] 39)).heap.size (w.alloc (.cells #[.int .i64 y.q,.int .i64 y.w,.int .i64 y.f,.int .i64 y.h] 39)) W->Calls Tryz.prog 157 #[.agg #[.int .i64 y.q,.int .i64 y.w,.int .i64 y.f,.int .i64 y.h],.slice lo l.length lc] W fun e w'=>e = .returned (.int .i64 (pZ y.q l))/\Below W.heap.size W w'):=I (fun W hW=>Z0p W y l lo lc ((h5.below bx).below hW) fX);obtain⟨qo,mo,uo,ho,co,qc,mc,uc,hc,cc,hA,hR,-⟩:=h4;have a2:=hA.cell 2 _ rfl;obtain⟨gu,ou,eV,iZ,cF⟩:=hR.u.at mN j y hy;have u0:=cF 0 _ rfl;have u1:=cF 1 _ rfl;have u2:=cF 2 _ rfl;have u3:=cF 3 _ rfl;rw[Nat.add_zero] at u0;rw[eV] at a2;have r0:=h1.cell 0 _ rfl;have R1:=I (h1.step bx);have X1:=I (h2.step bx);have L1:=I (h3.step bx);have B1:=I bx;have Y1:=hnw w 39 [.int .i64 y.q,.int .i64 y.w,.int .i64 y.f,.int .i64 y.h]
 have jj:(j:Int)<(cw.us.length:Nat):=by omega
 generalize cw.us.length=nu at *;generalize Hv cw C x.w l (j:Int)=bv at *;generalize (iN cw C j).length=pn at *;generalize pZ y.q l=nd at *;generalize wR:l.length=nl at *;clear h1 h2 h3 h5 hA hR hy KU eV iZ cF hS aJ bx wR fX;obtain⟨yq,yw,yf,yh⟩:=y;obtain⟨xq,xw,xf,xh⟩:=x
 go_enter Tryz.func156,Tryz.ntmps156
 go_upto_region 2 with(fail)
 clear a2 u0 u1 u2 u3 r0;generalize w.alloc (.cells #[.int .i64 yq,.int .i64 yw,.int .i64 yf,.int .i64 yh] 39)=w1 at *;generalize hYB:w.heap.size=YB at *;have wS:=I hYB;clear hYB;by_cases xk:yw=xw
 ·subst xk
  have fZ:Hid (bv=decide ((pn:Int)<nd)):=I (by rw[HV.o];simp);clear HV;refine oK (bkF yq yw yf yh nd lo nl lc j P YB XB pn) (by kernel_rfl) (fun _ _ _ _ h _=>h) (jD (by kernel_rfl)) (oJ (by kernel_rfl)) (iV (by kernel_rfl)) ?hs ?he
  case hs =>
   intro i o hi listed a' w' H aU;have hb:=I H.below;obtain⟨t',df⟩:=a';obtain⟨f',rfl,-⟩:=Z4g t' H.tsize;obtain rfl:df=[]:=H.defers;have gJ:f' 0 = .int .i64 (j:Nat):=H.sm 0 (by kernel_rfl);have cG:f' 1 = .pointer (some ⟨RB,0,none⟩):=H.sm 1 (by kernel_rfl);have eC:f' 2 = .pointer (some ⟨XB,0,none⟩):=H.sm 2 (by kernel_rfl);have bB:f' 3 = .pointer (some ⟨LB,0,none⟩):=H.sm 3 (by kernel_rfl);have dP:f' 6 = .pointer (some ⟨YB,0,none⟩):=H.sm 6 (by kernel_rfl);have aA:=H.hC aU;clear aU H;rcases ny i (lI.1 hi).1 with rfl | rfl | rfl | rfl | rfl | rfl | rfl | rfl | rfl | rfl | rfl | rfl | rfl | rfl | rfl | rfl<;>obtain rfl:=bF hi;rw[dP]
   rotate_left
   rw[show f' 15=_ from aA 0 15 rfl];have c1:=(Y1.o.step hb.o).cell 1 _ rfl
   rotate_left
   rw[eC]
   rotate_left
   rw[show f' 17=_ from aA 2 17 rfl];have c1:=(X1.o.step hb.o).cell 1 _ rfl
   rotate_left
   rw[show f' 16=_ from aA 1 16 rfl,show f' 18=_ from aA 3 18 rfl]
   have e1:(yw==yw)=true:=by simp
   rotate_left
   rw[show f' 19=_ from aA 4 19 rfl]
   rotate_left
   rw[cG,show f' 20=_ from aA 5 20 rfl];have c1:=(R1.o.step hb.o).cell 0 _ rfl
   rotate_left
   rw[gJ,show f' 20=_ from aA 5 20 rfl]
   rotate_left
   ·have dR:f' 20=_:=aA 5 20 rfl
    have iL:f' 21=_:=aA 6 21 rfl;have jA:f' 22=_:=aA 7 22 rfl;clear aA;rw[dR,iL,jA];clear dR iL jA gJ cG eC bB dP;refine aP rfl ?_
    go_wp2_with fail
    refine(yA.o w' hb.o).mono ?_;rintro e w4 ⟨⟨o,cap,rfl⟩,b4⟩;have bC:=I b4;clear b4
    go_wp2_with fail
    exact aI ⟨_,rfl,bC.o,o,cap,rfl⟩
   have fE:bkF yq yw yf yh nd lo nl lc j P YB XB pn 8 w' (f' 23):=aA 8 23 rfl;obtain⟨o,cap,fE⟩:=fE;rw[show f' 20=_ from aA 5 20 rfl,fE];clear fE
   rotate_left
   rw[dP,show f' 20=_ from aA 5 20 rfl];have Y2:=Y1.o.step hb.o;obtain⟨y0,y1,y2,y3⟩:=Y2.c4;clear Y2
   rotate_left
   rw[bB,show f' 20=_ from aA 5 20 rfl];have c1:=(L1.o.step hb.o).cell 0 _ rfl
   rotate_left
   ·have dR:f' 20=_:=aA 5 20 rfl
    have fK:f' 25=_:=aA 10 25 rfl;have eE:f' 26=_:=aA 11 26 rfl;clear aA;rw[dR,fK,eE];clear dR fK eE gJ cG eC bB dP;refine aP rfl ?_
    go_wp2_with fail
    refine(xi.o w' hb.o).mono ?_;rintro e w4 ⟨rfl,b4⟩;have bC:=I b4;clear b4
    go_wp2_with fail
    exact aI ⟨_,rfl,bC.o,rfl⟩
   rw[show f' 20=_ from aA 5 20 rfl,show f' 24=_ from aA 9 24 rfl,show f' 27=_ from aA 12 27 rfl]
   rotate_left
   rw[show f' 20=_ from aA 5 20 rfl,show f' 28=_ from aA 13 28 rfl]
   rotate_left
   rw[show f' 29=_ from aA 14 29 rfl]
   rotate_left
   all_goals clear aA gJ cG eC bB dP
   all_goals (refine aP rfl ?_;go_wp2_with fail;exact aI ⟨_,rfl,aG _ _,rfl⟩)
  case he =>
   intro listed a' w4 H aD;have iD:=H.done 15 _ 5 rfl (aD 15 (by decide)) rfl;have aK:=I H.below;obtain⟨zf,hz,rfl⟩:=H.actz [15,16,17,18,19,20,21,22,23,24,25,26,27,28,29,5] (oL (by kernel_rfl));rw[hz] at iD;clear H aD hz;simp only[fcL,fnL,Act.put,sbT,scS,scZ];rw[show zf 5=_ from iD];clear iD
   go_wp2
   go_ret;exact⟨by rw[fZ.o];rfl,by rw[wS.o];exact B1.o.trans (aK.o.mono (by rw[<- wS.o];exact B1.o.size))⟩
 ·have xm:(yw==xw)=false:=by simpa using xk
  have fZ:Hid (bv=false):=I (by rw[HV.o];simp[xk]);clear HV;have y1:=Y1.o.cell 1 _ rfl;have x1:=X1.o.cell 1 _ rfl
  go_quiet (fail)
  go_wp2
  go_ret;exact⟨by rw[fZ.o];rfl,by rw[wS.o];exact below_drewN B1.o _⟩
def Te(c:Crw)(H C:List (List Bool))(own:List Int)(x:Use)(l:List Wsh):Bool:=Hv (jE c x) (C++[eY c H x]) x.w l (c.us.length:Int)||own.any (Hv (jE c x) (C++[eY c H x]) x.w l)
theorem ZC(w:World)(A:Nat)(c:Crw)(H C:List (List Bool))(own:List Int)(oo:Option Addr)(oc:Nat)(x:Use)(l:List Wsh)(lo:Option Addr)(lc:Nat)(hr:fG w A c H C)(aJ:ReckOk c C)(K1:c.us.length<=999)(dL:0<=x.q)(kL:x.q.toNat<H.length)(hH:∀ r∈H,r.length=c.ms.length)(hw:0<=x.w/\x.w<=15)(bD:aY aZ w oo own)(zN:own.length<=1000000)(KV:∀ q∈own,cM q c.us.length=true)(hl:aY Pa w lo l)(fX:l.length<=1000000) :
  Calls Tryz.prog 104 #[.pointer (some ⟨A,0,none⟩),.slice oo own.length oc,.agg (cQ x).toArray,.slice lo l.length lc] w fun e w'=>e = .returned (.bool (Te c H C own x l))/\Below w.heap.size w w':=by
 have hM:=aJ.nm;have Rb:=I (fun W (hW:Below w.heap.size w W)=>YE W A c H C x (hr.below hW) dL kL hH (by omega) (by omega) (by rw[aJ.len];omega));have Kd:=I (ZB aJ hw (Sy c H x) K1);have KW:Hid (Te c H C own x l=(Hv (jE c x) (C++[eY c H x]) x.w l (c.us.length:Int)||own.any (Hv (jE c x) (C++[eY c H x]) x.w l))):=I rfl;have Mv:Hid ((jE c x).us.length=c.us.length+1):=I (by show(c.us++[x]).length=_;rw[gL];rfl)
 have K2:Hid (∀ q∈own,cM q (jE c x).us.length=true):=I (fun q hq=>by
  obtain⟨k,rfl,hk⟩:=oZ (KV q hq);rw[Mv.o];unfold cM inB
  rw[decide_eq_true (by omega),decide_eq_true (by omega)];rfl)
 have K6:Hid (cM (c.us.length:Int) (jE c x).us.length=true):=I (by
  rw[Mv.o];unfold cM inB
  rw[decide_eq_true (by omega),decide_eq_true (by omega)];rfl)
 have Cq:=I (fun W (hW:Below w.heap.size w W)=>bD.below hW);have fQ:=I (fun W (hW:Below w.heap.size w W)=>hl.below hW)
 have jl:Hid (∀ W,Below w.heap.size w W->∃ uo uc,W.cell? ⟨A,2,none⟩=some (.slice uo c.us.length uc)):=I (fun W hW=>by
  obtain⟨qo,mo,uo,ho,co,qc,mc,uc,hc,cc,hA,hR,-⟩:=hr.below hW
  exact⟨uo,uc,hA.cell 2 _ rfl⟩)
 have mX:Hid (cQ x=[.int .i64 x.q,.int .i64 x.w,.int .i64 x.f,.int .i64 x.h]):=I rfl;obtain⟨X1,L1,B1⟩:=Ht w 39 56 [.int .i64 x.q,.int .i64 x.w,.int .i64 x.f,.int .i64 x.h] [.slice lo l.length lc];have X1:=I X1;have L1:=I L1;have B1:=I B1;have KX:Hid (∀ RB P,intFn (fun W=>FN W RB w.heap.size (w.heap.size+1) P (jE c x) H (C++[eY c H x]) x l lo lc) 156 #[.pointer (some ⟨RB,0,none⟩),.pointer (some ⟨w.heap.size,0,none⟩),.pointer (some ⟨w.heap.size+1,0,none⟩)] (fun u=>Hv (jE c x) (C++[eY c H x]) x.w l u) (fun u=>cM u (jE c x).us.length=true)):=I (fun RB P=>Z0q RB w.heap.size (w.heap.size+1) P (jE c x) H (C++[eY c H x]) x l lo lc Kd.o fX);clear hr aJ bD KV hl hH;generalize Ck:(fun u=>Hv (jE c x) (C++[eY c H x]) x.w l u)=br at *;have Qa:Hid (Te c H C own x l=(br (c.us.length:Int)||own.any br)):=I (by rw[<- Ck];exact KW.o);clear KW Ck;generalize Te c H C own x l=BV at *;rw[mX.o] at Rb ⊢;clear mX;generalize c.us.length=nu at *
 go_enter Tryz.func104,Tryz.ntmps104
 go_upto_region 1 with(fail)
 generalize (w.alloc (.cells #[.int .i64 x.q,.int .i64 x.w,.int .i64 x.f,.int .i64 x.h] 39)).alloc (.cells #[.slice lo l.length lc] 56)=w1 at *;obtain⟨x0,x1,x2,x3⟩:=X1.o.c4;have wT:=I (Rb.o w1 B1.o);clear Rb
 go_wp2_with fail
 refine wT.o.mono ?_;rintro e w2 ⟨P,rfl,hP,-,b2⟩;have HP:=I hP;have B2:=B1.tr b2;have X2:=X1.st b2;have L2:=I (L1.o.step b2);clear x0 x1 x2 x3 b2 hP wT B1 X1 L1
 go_upto_region 2 with(fail)
 have bz:=bwA w2 (.cells #[.pointer (some ⟨P,0,none⟩)] 102);have R3:=hnw w2 102 [.pointer (some ⟨P,0,none⟩)];have Mw:=I (HP.o.below bz);have B3:=B2.tr bz;have X3:=X2.st bz;have L3:=I (L2.o.step bz);clear bz HP B2 X2 L2;generalize w2.alloc (.cells #[.pointer (some ⟨P,0,none⟩)] 102)=w3 at *;generalize w2.heap.size=RB at *;have rW:=I (KX.o RB P);clear KX;have Ut:Hid (FN w3 RB w.heap.size (w.heap.size+1) P (jE c x) H (C++[eY c H x]) x l lo lc):=I ⟨R3.o,X3.o,L3.o,Mw.o,fQ.o w3 B3.o⟩;clear R3 X3 L3 Mw;obtain⟨uo,uc,a2⟩:=jl.o w3 B3.o;have eg:=rW.o.enters;have cA:=I (rW.o.calls (nu:Int) w3 K6.o Ut.o);obtain⟨b1,kO⟩:∃ y,br (nu:Int)=y:=⟨_,rfl⟩;rw[kO] at cA Qa;clear kO
 go_wp2_with fail
 refine cA.o.mono ?_;rintro e w4 ⟨rfl,b4⟩;have B4:=B3.tr b4;have Uu:=I (rW.o.step _ _ Ut.o b4);clear b4 cA Ut a2 B3
 cases b1 with
 | true =>
  have qI:Hid (BV=true):=I (by rw[Qa.o];rfl)
  go_wp2_with fail
  go_ret;exact⟨by rw[qI.o];rfl,B4.o⟩
 | false =>
  have lT:=I (fa w4 own oo own.length oc rfl zN (Cq.o w4 B4.o) _ _ _ _ _ rW.o K2.o Uu.o);have qI:Hid (BV=own.any br):=I (by rw[Qa.o];rfl);clear Qa;generalize own.any br=b2 at *;generalize own.length=on at *
  go_wp2_with fail
  refine lT.o.mono ?_;rintro e w5 ⟨rfl,b5⟩;have B5:=B4.tr b5;clear b5 lT
  go_wp2_with fail
  go_ret;exact⟨by rw[qI.o];rfl,B5.o⟩
end
section
open Go.RowKit Go.Sort Go.Maps
def Fp(c:Crw)(own:List Int):Bool:=!own.any (fun q=>!cM q c.us.length)
theorem Z0r{c:Crw}{own:List Int}(h:Fp c own=true):∀ q∈own,cM q c.us.length=true:=fun q hq=>by
 unfold Fp at h;rw[Bool.not_eq_true',List.any_eq_false] at h;have:=h q hq;simpa using this
def pt(c:Crw)(own:List Int)(x:Use)(l:List Wsh):Bool:=pC c x&&Fp c own&&!Te c (bS c) (aW c) own x l
theorem Tf{c:Crw}{x:Use}(h:pC c x=true):bG c=true/\0<=x.q/\x.q.toNat<(bS c).length/\0<=x.w/\x.w<=15:=by
 unfold pC at h;rw[dB] at h;have hq:=Le h.2;exact⟨h.1,hq.1,by rw[Td];exact hq.2.1,hq.2.2.1,hq.2.2.2.1⟩
theorem Zxt(w:World)(c:Crw)(cs:List Value)(B:Nat)(own:List Int)(oo:Option Addr)(oc:Nat)(x:Use)(l:List Wsh)(lo:Option Addr)(lc:Nat)(ha:ArgC w c cs B)(bD:aY aZ w oo own)(zN:own.length<=1000000)(hl:aY Pa w lo l)(fX:l.length<=1000000) :
  Calls Tryz.prog 33 #[.agg cs.toArray,.slice oo own.length oc,.agg (cQ x).toArray,.slice lo l.length lc] w fun e w'=>e = .returned (.bool (pt c own x l))/\Below w.heap.size w w':=by
 have gO:=I (fun W (hW:Below w.heap.size w W)=>FM W c cs B x (ha.below hW));have iC:=ha.nu;have lE:=ha.ok.nq;have jI:=ha.ok.nm;have bJ:Hid (pt c own x l=(pC c x&&Fp c own&&!Te c (bS c) (aW c) own x l)):=I rfl;have Cq:=I (fun W (hW:Below w.heap.size w W)=>ZA W c cs own oo oc (ha.crw.below hW) (by omega) (bD.below hW) zN);have wD:=I (fun W A (hW:Below w.heap.size w W) (h:fG W A c (bS c) (aW c)) (hp:pC c x=true) (ho:Fp c own=true)=>ZC W A c (bS c) (aW c) own oo oc x l lo lc h (qP (Tf hp).1 (by omega)) iC (Tf hp).2.1 (Tf hp).2.2.1 Wj ⟨(Tf hp).2.2.2.1,(Tf hp).2.2.2.2⟩ (bD.below hW) zN (Z0r ho) (hl.below hW) fX);obtain⟨qo,qc,mo,mc,uo,uc,rfl,-,-,-⟩:=ha.crw;unfold ff at gO;have Zp:Hid (Fp c own=!own.any (fun q=>!cM q c.us.length)):=I rfl;rw[<- Zp.o] at Cq;clear ha bD hl Zp;generalize pt c own x l=PA at *;generalize xp:Fp c own=ob at *;generalize Kc:pC c x=pb at *;generalize Te c (bS c) (aW c) own x l=bk at *;clear xp Kc;have mX:Hid (cQ x=[.int .i64 x.q,.int .i64 x.w,.int .i64 x.f,.int .i64 x.h]):=I rfl;rw[mX.o] at gO wD ⊢;generalize c.qs.length=nq at *;generalize c.ms.length=nm at *;generalize c.us.length=nu at *;generalize own.length=on at *;generalize l.length=nl at *;obtain⟨X1,U1,B1⟩:=Ht w 26 39 [.slice qo nq qc,.slice mo nm mc,.slice uo nu uc] [.int .i64 x.q,.int .i64 x.w,.int .i64 x.f,.int .i64 x.h];have X1:=I X1;have U1:=I U1;have B1:=I B1;clear mX;generalize x.w=x1 at *;generalize x.f=x2 at *;generalize x.h=x3 at *;generalize x.q=x0 at *
 go_enter Tryz.func33,Tryz.ntmps33
 go_upto_region 1 with(fail)
 generalize (w.alloc (.cells #[.slice qo nq qc,.slice mo nm mc,.slice uo nu uc] 26)).alloc (.cells #[.int .i64 x0,.int .i64 x1,.int .i64 x2,.int .i64 x3] 39)=w1 at *;obtain⟨c0,c1,c2⟩:=X1.o.c3;obtain⟨p0,p1,p2,p3⟩:=U1.o.c4;have cA:=I (gO.o w1 B1.o);clear gO
 go_wp2_with fail
 refine cA.o.mono ?_;intro e w2 hq;obtain⟨b2,aN⟩:=hq;have B2:=B1.tr b2;have X2:=X1.st b2;have U2:=I (U1.o.step b2);clear b2 c0 c1 c2 p0 p1 p2 p3 B1 X1 U1 cA
 cases pb with
 | false =>
  rw[if_neg (by decide)] at aN;subst aN;have bK:Hid (PA=false):=I (by rw[bJ.o];rfl);clear bJ
  go_wp2_with fail
  go_ret;exact⟨by rw[bK.o];rfl,B2.o⟩
 | true =>
  rw[if_pos rfl] at aN;obtain⟨A,rfl,hR,-⟩:=aN;have HR:=I hR;clear hR;obtain⟨c0,c1,c2⟩:=X2.o.c3;have qJ:=I (Cq.o w2 B2.o);clear Cq
  go_wp2_with fail
  refine qJ.o.mono ?_;rintro e w3 ⟨rfl,b3⟩;have B3:=B2.tr b3;have U3:=I (U2.o.step b3);have yB:=I (HR.o.below b3);clear b3 c0 c1 c2 qJ HR B2 X2 U2
  cases ob with
  | false =>
   have bK:Hid (PA=false):=I (by rw[bJ.o];rfl);clear bJ
   go_wp2_with fail
   go_ret;exact⟨by rw[bK.o];rfl,B3.o⟩
  | true =>
   have bK:Hid (PA=!bk):=I (by rw[bJ.o];rfl);have Cu:=I (wD.o w3 A B3.o yB.o (by first | rfl | trivial) (by first | rfl | trivial));obtain⟨p0,p1,p2,p3⟩:=U3.o.c4;clear bJ wD
   go_wp2_with fail
   refine Cu.o.mono ?_;rintro e w4 ⟨rfl,b4⟩;have B4:=B3.tr b4;clear b4 Cu p0 p1 p2 p3
   go_wp2_with fail
   go_ret;exact⟨by rw[bK.o];rfl,B4.o⟩
end
section
open Go.RowKit Go.Sort Go.Maps
def yP(c:Crw)(uses:List Nat):Crw:=⟨c.qs,c.ms,uses.map (fun u=>c.us.getD u ⟨0,0,0,0⟩)⟩
def xC(C:List (List Bool))(uses:List Nat):List (List Bool):=uses.map (fun u=>C.getD u [])
def fg(uses:List Nat)(own:List Int)(i:Nat):Bool:=own.contains ((uses.getD i 0:Nat):Int)
def uE(uses:List Nat)(own:List Int):List Nat:=(List.range uses.length).filter (fg uses own)
def Sep(a b:Option Addr):Prop:=∀ x,blk a=some x->blk b≠some x
theorem Sep.symm{a b:Option Addr}(h:Sep a b):Sep b a:=fun x h1 h2=>h x h2 h1
theorem Sep.new{n g off:Nat}{a b:Option Addr}(h:blk a=some g\/n<=g)(hs:Sep a b)(hb:∀ x,blk b=some x->x<n):Sep (some ⟨g,off,none⟩) b:=fun x h1 h2=>by
 have e:g=x:=bF h1;subst e;rcases h with h | h
 ·exact hs g h h2
 ·have:=hb g h2;omega
theorem Sep.none(b:Option Addr):Sep none b:=fun x h=>by cases h
theorem ZD{α:Type}{l:List α}{i:Nat}{x:α}(h:l[i]?=some x):l.take (i+1)=l.take i++[x]:=by
 rw[lN,h];rfl
theorem OwnK.cap_le{w:World}{B k n cap:Nat}{xs:List Value}{ao:Option Addr}(h:OwnK w B k n cap xs ao):n<=cap:=by
 cases h with
 | nil h1 h2 h3=>omega
 | «at» g off h1 h2 h3 h4=>exact h4
theorem Zxv(w:World)(l:List Int)(lo:Option Addr)(lc:Nat)(x:Int)(hl:aY aZ w lo l)(fX:l.length<=1000000) :
  Calls Tryz.prog 155 #[.slice lo l.length lc,.int .i64 x] w fun e w'=>e = .returned (.bool (l.contains x))/\w=w':=by
 rcases hl with h | ⟨g,off,h1,h2,h3⟩
 ·subst h
  exact(Tryz.slices_Contains_int_empty lo lc x w).mono (fun e w' ⟨a,b⟩=>⟨a,b.symm⟩)
 ·subst h1
  refine(Tryz.slices_Contains_int g off l.length lc l x w (aO _) (by omega) (fun j hj=>?_)).mono (fun e w' ⟨a,b⟩=>⟨by rw[a,List.take_length],b.symm⟩);have:=h3 j (.int .i64 l[j]) (by rw[<- Nv];unfold ivs;rw[dK,aL hj];rfl);rw[this,bR,aL hj];rfl
theorem Z0s(w:World)(Q:Nat->Prop)(A:Nat)(c:Crw)(H C:List (List Bool))(uses:List Nat)(po:Option Addr)(pc:Nat)(own:List Int)(oo:Option Addr)(oc:Nat)(hr:oO w Q A c H C)(hQ:∀ g,Q g->g<w.heap.size)(aJ:ReckOk c C)(hu:aY aZ w po (uses.map Int.ofNat))(Qj:uses.length<=1000)(xy:∀ u∈uses,u<c.us.length)(bD:aY aZ w oo own)(zN:own.length<=1000000) :
  Calls Tryz.prog 102 #[.pointer (some ⟨A,0,none⟩),.slice po uses.length pc,.slice oo own.length oc] w fun e w'=>(∃ X mo cap,e = .returned (.tuple #[.pointer (some ⟨X,0,none⟩),.slice mo (uE uses own).length cap])/\oO w' Q X (yP c uses) H (xC C uses)/\OwnK w' w.heap.size 1 (uE uses own).length cap (bE (uE uses own)) mo)/\Below w.heap.size w w':=by
 have hU:=aJ.nu;have KY:Hid (uE uses own=(List.range uses.length).filter (fg uses own)):=I rfl
 have lB:Hid (∀ (i u:Nat),uses[i]?=some u->fg uses own i=own.contains (u:Int)):=I (fun i u h=>by
  unfold fg
  rw[bR,h];rfl)
 have sL:=I (fun W (hW:Below w.heap.size w W) x=>Zxv W own oo oc x (bD.below hW) zN);have xz:=I (fun W (hW:Below w.heap.size w W)=>hu.below hW);have K8:Hid (∀ (i:Nat),i<uses.length->∃ u,uses[i]?=some u/\u<c.us.length):=I (fun i h=>⟨uses[i],aL h,xy _ (List.getElem_mem h)⟩);obtain⟨qo,mo,uo,ho,co,qc,mc,uc,hc,cc,hA,hQA,Ke,ya,hRW,Dd⟩:=hr;have hR:=hRW w (Only.refl _ _);obtain⟨vals,kD,xV,jn,Mn⟩:=YC hR.c;have AW:=I (fun W (hW:Below w.heap.size w W)=>hA.step hW);unfold qO at AW;have Uv:=I (fun W (hW:Below w.heap.size w W)=>hR.q.below hW);have nA:=I (fun W (hW:Below w.heap.size w W)=>hR.m.below hW);have HHW:=I (fun W (hW:Below w.heap.size w W)=>hR.h.below hW)
 have ye:Hid (∀ (u:Nat),u<c.us.length->∃ gu ou y,uo=some ⟨gu,ou,none⟩/\c.us[u]?=some y/\∀ W,Below w.heap.size w W->W.cell? ⟨gu,ou+u*4,none⟩=some (.int .i64 y.q)/\W.cell? ⟨gu,ou+u*4+1,none⟩=some (.int .i64 y.w)/\W.cell? ⟨gu,ou+u*4+2,none⟩=some (.int .i64 y.f)/\W.cell? ⟨gu,ou+u*4+3,none⟩=some (.int .i64 y.h)):=I (fun u hu=>by
  obtain⟨y,hy⟩:∃ y,c.us[u]?=some y:=⟨_,aL hu⟩;obtain⟨gu,ou,eV,iZ,-⟩:=hR.u.at mN u y hy;refine⟨gu,ou,y,eV,hy,fun W hW=>?_⟩;obtain⟨g2,o2,h2,-,cF⟩:=(hR.u.below hW).at mN u y hy;rw[eV] at h2;injection h2 with h2;injection h2 with e1 e2;subst e1 e2
  exact⟨by have:=cF 0 _ rfl;rwa [Nat.add_zero] at this,cF 1 _ rfl,cF 2 _ rfl,cF 3 _ rfl⟩)
 have Zq:Hid (∀ (u:Nat),u<c.us.length->∃ gv ov bo bc row,co=some ⟨gv,ov,none⟩/\C[u]?=some row/\vals[u]?=some (.slice bo c.ms.length bc)/\row.length=c.ms.length/\(∀ W,Only w W Q->aY lO W bo row)/\∀ W,Below w.heap.size w W->W.cell? ⟨gv,ov+u,none⟩=some (.slice bo c.ms.length bc)):=I (fun u hu=>by
  obtain⟨row,aS⟩:∃ y,C[u]?=some y:=⟨_,aL (by rw[aJ.len];exact hu)⟩;have gC:=aJ.row row (bU aS);obtain⟨C4,C9,hv,-⟩:=xV u row aS;rw[gC] at hv;rcases Mn with h | ⟨gv,ov,h1,h2,h3⟩
  ·rw[aJ.len] at h;omega
  ·rcases Dd with h | ⟨g,off,e1,hg,hq,h6⟩
   ·rw[h] at aS;simp at aS
   ·obtain⟨bo,bc,h7,h8⟩:=h6 u row aS
    rw[e1] at h1;injection h1 with h1;injection h1 with e2 e3;subst e2 e3;have h9:=h3 u _ hv;rw[h7,gC] at h9;have h9:=bF h9;refine⟨g,off,bo,bc,row,e1,aS,by rw[h9];exact hv,gC,h8,fun W hW=>?_⟩
    rw[rJ (w:=w) (a:=⟨g,off+u,none⟩) (hW.block g hg),h7,gC])
 obtain⟨usT,husT⟩:∃ f:Nat->List Use,f=fun i=>(uses.take i).map (fun u=>c.us.getD u ⟨0,0,0,0⟩):=⟨_,rfl⟩
 obtain⟨vsT,hvsT⟩:∃ f:Nat->List Value,f=fun i=>(uses.take i).map (fun u=>vals.getD u undef):=⟨_,rfl⟩
 have yg:Hid (∀ (i u:Nat) (y:Use),uses[i]?=some u->c.us[u]?=some y->(usT (i+1)).flatMap cQ=(usT i).flatMap cQ++[.int .i64 y.q,.int .i64 y.w,.int .i64 y.f,.int .i64 y.h]):=I (fun i u y h1 h2=>by
  rw[husT];show((uses.take (i+1)).map _).flatMap cQ=((uses.take i).map _).flatMap cQ++_
  rw[ZD h1,List.map_append,List.flatMap_append,List.map_singleton,List.flatMap_singleton,bR,h2];rfl)
 have yi:Hid (∀ (i u:Nat) (v:Value),uses[i]?=some u->vals[u]?=some v->vsT (i+1)=vsT i++[v]):=I (fun i u v h1 h2=>by
  rw[hvsT];show(uses.take (i+1)).map _=(uses.take i).map _++_
  rw[ZD h1,List.map_append,List.map_singleton,bR,h2];rfl)
 have wK:Hid ((usT 0).flatMap cQ=[]):=I (by rw[husT];rfl);have Uw:Hid (vsT 0=[]):=I (by rw[hvsT];rfl)
 have iB:Hid (∀ W X uo' uc' co' cc',Below w.heap.size w W->w.heap.size<=X->aC W X 113 [.slice qo c.qs.length qc,.slice mo c.ms.length mc,.slice uo' uses.length uc',.slice ho H.length hc,.slice co' uses.length cc']->OwnK W w.heap.size 4 uses.length uc' ((usT uses.length).flatMap cQ) uo'->OwnK W w.heap.size 1 uses.length cc' (vsT uses.length) co'->oO W Q X (yP c uses) H (xC C uses)):=I (fun W X uo' uc' co' cc' hW hXX hX hUS hCN=>by
  rw[husT] at hUS;rw[hvsT] at hCN;have hUS:OwnK W w.heap.size 4 uses.length uc' (((uses.take uses.length).map (fun u=>c.us.getD u ⟨0,0,0,0⟩)).flatMap cQ) uo':=hUS;have hCN:OwnK W w.heap.size 1 uses.length cc' ((uses.take uses.length).map (fun u=>vals.getD u undef)) co':=hCN;rw[List.take_length] at hUS hCN;have qC:(yP c uses).us.length=uses.length:=eB _;have aU:(xC C uses).length=uses.length:=eB _
  have wI:∀ (i:Nat) (row:List Bool),(xC C uses)[i]?=some row->∃ (bo:Option Addr) (bc:Nat),(uses.map (fun u=>vals.getD u undef))[i]?=some (Value.slice bo row.length bc)/\∀ W',Only w W' Q->aY lO W' bo row:=fun i row hi=>by
    unfold xC at hi;rw[dK] at hi
    cases Ms:uses[i]? with
    | none=>rw[Ms] at hi;cases hi
    | some u =>
     rw[Ms] at hi;have hi:C.getD u []=row:=bF hi;obtain⟨gv,ov,bo,bc,row',h1,h2,h3,h4,h5,-⟩:=Zq.o u (xy u (bU Ms));rw[bR,h2] at hi;have hi:row'=row:=hi;subst hi;refine⟨bo,bc,?_,h5⟩;rw[dK,Ms,h4];show some (vals.getD u undef)=_;rw[bR,h3];rfl
  have De:∀ W',Only W W' Q->Only w W' Q:=fun W' oW=>(Only.of_below hW:Only w W Q).glue oW (fun g _ h=>h)
  have rA:∀ g,w.heap.size<=g->¬ Q g:=fun g h1 h2=>by have:=hQ g h2;omega
  have hC0:∀ W',Only W W' Q->lY W' (xC C uses) co':=fun W' oW=>by
   have hCN':=hCN.of_block (fun g e hl=>oW.block g hl (rA g (hCN.blk_lt e).1)) oW.size
   cases hCN' with
   | nil h1 h2 h3 =>
    left
    apply List.length_eq_zero_iff.1;rw[aU];have:=congrArg List.length h1;rw[eB] at this;simpa using this
   | «at» g off h1 h2 h3 h4=>exact EO (.at g off h1 h2 h3 h4) (fun i row hi=>by
     obtain⟨bo,bc,h5,h6⟩:=wI i row hi
     exact⟨bo,bc,h5,h6 W' (De W' oW)⟩)
  refine⟨qo,mo,uo',ho,co',qc,mc,uc',hc,cc',?_,rA X hXX,by rw[qC];exact hUS.cap_le,by rw[aU];exact hCN.cap_le,fun W' oW=>?_,?_⟩
  ·unfold qO
   rw[qC,aU];exact hX
  ·have hR':=hRW W' (De W' oW)
   exact⟨hR'.q,hR'.m,(hUS.of_block (fun g e hl=>oW.block g hl (rA g (hUS.blk_lt e).1)) oW.size).flatR mN qC.symm,hR'.h,hC0 W' oW⟩
  ·cases hCN with
   | nil h1 h2 h3 =>
    left
    apply List.length_eq_zero_iff.1;rw[aU];have:=congrArg List.length h1;rw[eB] at this;simpa using this
   | «at» g off h1 h2 h3 h4 =>
    refine .inr ⟨g,off,rfl,h1.lt,rA g h1.own,fun i row hi=>?_⟩;obtain⟨bo,bc,h5,h6⟩:=wI i row hi
    exact⟨bo,bc,h1.cells i _ h5,fun W' oW=>h6 W' (De W' oW)⟩)
 have Xx:=aJ.len;clear hA hR hQA Ke ya hRW Dd hQ kD xV jn Mn aJ hu xy bD zN husT hvsT;generalize c.qs.length=nq at *;generalize c.ms.length=nm at *;generalize c.us.length=nu at *;generalize H.length=nh at *;generalize C.length=nc at *;generalize uE uses own=MF at *;generalize fg uses own=pb at *;generalize own.length=ol at *;generalize hL:uses.length=L at *;clear hL
 go_enter Tryz.func102,Tryz.ntmps102
 go_upto_region 1 with(fail)
 refine Ku [0,1,2,3,4,5,6,7,8] [9,10] (fun w'=>aC w' A 113 [.slice qo nq qc,.slice mo nm mc,.slice uo nu uc,.slice ho nh hc,.slice co nc cc]) (by kernel_rfl) (by kernel_rfl) (by kernel_rfl) (fun _ _ d _ _ h=>by cases d<;>exact h) ((AW.o w (aG _ _)).step (aG _ _).drew) ?_;simp only[iH,List.filterMap_cons,List.filterMap_nil,List.getElem?_cons_zero,List.getElem?_cons_succ,Option.map_some,List.map_cons,List.map_nil];apply Exists.intro;refine⟨?hh,?ht⟩
 case hh =>
  intro w' bM;obtain⟨c0,c1,c2,c3⟩:=bM.c4;clear bM
  repeat still_step
  exact wpStill_nil rfl
 case ht =>
  have B2:=I ((aG w.heap.size w).drew);generalize w.drew=w2 at *;have A2:=AW.o w2 B2.o;have bx:=bwA w2 (.cells #[.slice qo nq qc,.slice mo nm mc,.slice uo nu uc,.slice ho nh hc,.slice none 0 0] 113);refine jT ?_
  go_wp2_with fail
  refine aI ⟨A2.step bx,?_⟩;obtain⟨X,hX⟩:=exq (w2.heap.size);have XV:Hid (aC (w2.alloc (.cells #[.slice qo nq qc,.slice mo nm mc,.slice uo nu uc,.slice ho nh hc,.slice none 0 0] 113)) X 113 [.slice qo nq qc,.slice mo nm mc,.slice uo nu uc,.slice ho nh hc,.slice none 0 0]):=I (aC.newAt _ _ _ _ hX.symm);have B3:=B2.tr bx;have lR:Hid (w.heap.size<=X):=I (by rw[<- hX];exact B2.o.size);rw[hX];clear bx A2 hX B2;generalize w2.alloc (.cells #[.slice qo nq qc,.slice mo nm mc,.slice uo nu uc,.slice ho nh hc,.slice none 0 0] 113)=w3 at *;refine Kt ?_;have t3:=XV.o.cell 2 _ rfl;have tf:=XV.o.warm 2
  go_upto_region 3 with(fail)
  clear t3 tf;have on:=(Only.refl w3 (· = X)).setCell (a:=⟨X,2,none⟩) (.slice none 0 0) rfl;have X4:Hid (aC (w3.setCell ⟨X,2,none⟩ (.slice none 0 0)) X 113 [.slice qo nq qc,.slice mo nm mc,.slice none 0 0,.slice ho nh hc,.slice none 0 0]):=I (XV.o.set 2 (.slice none 0 0));have B4:=I (Only.later B3.o on (fun g hg=>by have:=lR.o;omega));clear on XV B3;generalize w3.setCell ⟨X,2,none⟩ (.slice none 0 0)=w4 at *
  go_wp2_with fail
  go_loopw [28,9] (fun iv mv wr=>∃ (i n cap uc' cc':Nat) (mi uo' co':Option Addr),iv = .int .i64 i/\mv = .slice mi n cap/\i<=L/\n<=i/\Hid (((List.range i).filter pb).length=n)/\Hid (OwnK wr w.heap.size 1 n cap (bE ((List.range i).filter pb)) mi)/\Hid (OwnK wr w.heap.size 4 i uc' ((usT i).flatMap cQ) uo')/\Hid (OwnK wr w.heap.size 1 i cc' (vsT i) co')/\Hid (aC wr X 113 [.slice qo nq qc,.slice mo nm mc,.slice uo' i uc',.slice ho nh hc,.slice co' i cc'])/\Hid (Sep mi (some ⟨X,0,none⟩)/\Sep uo' (some ⟨X,0,none⟩)/\Sep co' (some ⟨X,0,none⟩)/\Sep mi uo'/\Sep mi co'/\Sep uo' co')/\Hid (Below w.heap.size w wr)) (fun i _ _=>(L-intOf i).toNat)
  case atStart=>exact⟨0,0,0,0,0,none,none,none,rfl,rfl,by omega,aO _,I rfl,I (.nil rfl rfl rfl),I (by rw[wK.o];exact .nil rfl rfl rfl),I (by rw[Uw.o];exact .nil rfl rfl rfl),X4,I ⟨Sep.none _,Sep.none _,Sep.none _,Sep.none _,Sep.none _,Sep.none _⟩,B4⟩
  case round =>
   clear X4 B4;obtain⟨i,n,cap,uc',cc',mi,uo',co',rfl,rfl,hi,hn,HN,MI,US,CN,XV,SP,BB⟩:=hrel;have e2:=w1i i (by omega);by_cases vY:i<L
   ·have ii:(i:Int)<L:=by omega
    obtain⟨u,hu,gV⟩:=K8.o i vY;obtain⟨gl,ol',fI,dT,vE⟩:=(xz.o wr BB.o).at jN i (u:Int) (by rw[dK,hu];rfl);have l0:=vE 0 _ rfl;rw[Nat.mul_one,Nat.add_zero] at l0;obtain⟨gu,ou,y,eV,hy,cF⟩:=ye.o u gV;obtain⟨gv,ov,bo,bc,row,iE,-,iJ,-,-,eK⟩:=Zq.o u gV;have KZ:=I (yg.o i u y hu hy);have Ux:=I (yi.o i u _ hu iJ);obtain⟨yq,yw,yf,yh⟩:=y;have LC:Hid (∀ W,Below w.heap.size w W->W.cell? ⟨gu,ou+u*4,none⟩=some (.int .i64 yq)/\W.cell? ⟨gu,ou+u*4+1,none⟩=some (.int .i64 yw)/\W.cell? ⟨gu,ou+u*4+2,none⟩=some (.int .i64 yf)/\W.cell? ⟨gu,ou+u*4+3,none⟩=some (.int .i64 yh)):=I cF;have Zr:=I eK;have Cf:=lB.o i u hu;have dY:=I (We pb i);have Uy:=I (sL.o wr BB.o (u:Int));obtain⟨bt,mW⟩:∃ y,own.contains (u:Int)=y:=⟨_,rfl⟩;rw[mW] at Cf Uy;have Cf:=I Cf
    have uu:(u:Int)<nu:=by omega
    have uv:(u:Int)<nc:=by omega
    have Mg:=I eV;have rQ:=I iE;subst fI;subst eV;subst iE;clear vE dT hy cF eK iJ hu mW
    go_wp2_with fail
    refine Uy.o.mono ?_;rintro e w2 ⟨rfl,rfl⟩;clear Uy l0
    cases bt with
    | true =>
     have x2:=XV.o.cell 2 _ rfl
     go_upto_region 9 with(at_builtin;refine jM 33 3 (.int .i64 0) 1 8 Tryz.underlying33 sE rfl (by omega) (by omega) wr w.heap.size rfl (.tmp 35) (.tmp 42) rfl mi cap n (bE ((List.range i).filter pb)) ?q1 MI.o BB.o.size 1 1 #[.int .i64 (i:Int)] 3 ?q2 rfl (by omega) ?q3 ?q4 ?_;(case q1=>rfl);(case q2=>rfl);(case q3=>simp[Value.oneCell']);(case q4=>omega);intro g4 off4 c4 wm o8 aX b8 bW;have MJ:=I o8;have on:=Wh aX;have BC:=I (BB.o.trans b8);have gM:=I bW;clear o8 aX b8 bW)
     have XW:=I (XV.o.only on (fun e=>SP.o.1 X e rfl));have UT:=I (US.o.of_block (fun g e hl=>on.block g hl (fun e2=>SP.o.2.2.2.1 g e2 e)) on.size);have CO:=I (CN.o.of_block (fun g e hl=>on.block g hl (fun e2=>SP.o.2.2.2.2.1 g e2 e)) on.size);have SQ:Hid (Sep (some ⟨g4,off4,none⟩) (some ⟨X,0,none⟩)/\Sep uo' (some ⟨X,0,none⟩)/\Sep co' (some ⟨X,0,none⟩)/\Sep (some ⟨g4,off4,none⟩) uo'/\Sep (some ⟨g4,off4,none⟩) co'/\Sep uo' co'):=I ⟨Sep.new gM.o SP.o.1 (fun x e=>by have e:X=x:=bF e;subst e;exact XV.o.lt),SP.o.2.1,SP.o.2.2.1,Sep.new gM.o SP.o.2.2.2.1 (fun x e=>(US.o.blk_lt e).2),Sep.new gM.o SP.o.2.2.2.2.1 (fun x e=>(CN.o.blk_lt e).2),SP.o.2.2.2.2.2⟩;clear on MI US CN XV SP BB gM x2
     go_upto_region 9 with(fail)
     refine Ku [0,1,2,3,4,5,6,7,8,9,10,11,12,13] [14,15,16,17,18,19] (fun w'=>aC w' X 113 [.slice qo nq qc,.slice mo nm mc,.slice uo' i uc',.slice ho nh hc,.slice co' i cc']/\Below w.heap.size w w') (by kernel_rfl) (by kernel_rfl) (by kernel_rfl) (fun _ _ d _ _ h=>by cases d<;>exact h) ⟨XW.o.step (aG _ _).drew,BC.o.drew⟩ ?_;simp only[iH,List.filterMap_cons,List.filterMap_nil,List.getElem?_cons_zero,List.getElem?_cons_succ,Option.map_some,List.map_cons,List.map_nil];apply Exists.intro;refine⟨?hh,?ht⟩
     case hh =>
      intro w' bM;have x2:=bM.1.cell 2 _ rfl;have a2:=(AW.o w' bM.2).cell 2 _ rfl;obtain⟨k0,k1,k2,k3⟩:=LC.o w' bM.2;clear bM
      repeat still_step
      exact wpStill_nil rfl
     case ht =>
      have BD:=(aG wm.heap.size wm).drew;have X3:=XW.st BD;have Rc:=I (MJ.o.below BD);have Zs:=I (UT.o.below BD);have Rd:=I (CO.o.below BD);have B3:=BC.tr BD;have pM:=SQ;clear BD;generalize wm.drew=w3 at *;refine jT ?_
      go_wp2_with fail
      have bz:=bwA w3 (.cells #[.int .i64 yq,.int .i64 yw,.int .i64 yf,.int .i64 yh] 39);refine aI ⟨⟨X3.o.step bz,B3.o.trans (bz.mono B3.o.size)⟩,?_⟩;clear bz;refine jT ?_
      go_wp2_with (at_builtin;refine jM 24 39 (.agg #[.int .i64 0,.int .i64 0,.int .i64 0,.int .i64 0]) 4 32 Tryz.underlying24 EZ rfl (by omega) (by omega) w3 w.heap.size rfl (.tmp 49) (.tmp 58) rfl uo' uc' i ((usT i).flatMap cQ) ?t1 Zs.o B3.o.size 1 1 #[.int .i64 yq,.int .i64 yw,.int .i64 yf,.int .i64 yh] 39 ?t2 rfl (by omega) ?t3 ?t4 ?_;(case t1=>rfl);(case t2=>rfl);(case t3=>simp[Value.oneCell']);(case t4=>omega);intro g5 off5 c5 wa o8 aX b8 bW;have Zt:=I o8;have on:=Wh aX;have B4:=I (B3.o.trans b8);have gM:=I bW;clear o8 aX b8 bW)
      have X4:=I (X3.o.only on (fun e=>pM.o.2.1 X e rfl));have Zu:=I (Rc.o.of_block (fun g e hl=>on.block g hl (fun e2=>pM.o.2.2.2.1 g e e2)) on.size);have Zv:=I (Rd.o.of_block (fun g e hl=>on.block g hl (fun e2=>pM.o.2.2.2.2.2 g e2 e)) on.size);have lV:Hid (Sep (some ⟨g4,off4,none⟩) (some ⟨X,0,none⟩)/\Sep (some ⟨g5,off5,none⟩) (some ⟨X,0,none⟩)/\Sep co' (some ⟨X,0,none⟩)/\Sep (some ⟨g4,off4,none⟩) (some ⟨g5,off5,none⟩)/\Sep (some ⟨g4,off4,none⟩) co'/\Sep (some ⟨g5,off5,none⟩) co'):=I ⟨pM.o.1,Sep.new gM.o pM.o.2.1 (fun x e=>by have e:X=x:=bF e;subst e;exact X3.o.lt),pM.o.2.2.1,(Sep.new gM.o pM.o.2.2.2.1.symm (fun x e=>(Rc.o.blk_lt e).2)).symm,pM.o.2.2.2.2.1,Sep.new gM.o pM.o.2.2.2.2.2 (fun x e=>(Rd.o.blk_lt e).2)⟩;clear on X3 Rc Zs Rd pM B3 gM;refine aI ⟨⟨X4.o,B4.o⟩,?_⟩;refine jT ?_
      go_wp2_with fail
      refine aI ⟨⟨X4.o,B4.o⟩,?_⟩;refine jT ?_
      go_wp2_with fail
      refine aI ⟨⟨X4.o,B4.o⟩,?_⟩;refine jT ?_
      go_wp2_with fail
      refine aI ⟨⟨X4.o,B4.o⟩,?_⟩;refine Kt ?_;have t3:=X4.o.cell 2 _ rfl;have tf:=X4.o.warm 2
      go_upto_region 10 with(fail)
      clear t3 tf;have on:=(Only.refl wa (· = X)).setCell (a:=⟨X,2,none⟩) (.slice (some ⟨g5,off5,none⟩) (i+1) c5) rfl;have X5:=I (X4.o.set 2 (.slice (some ⟨g5,off5,none⟩) (i+1) c5));have Zw:=I (Zu.o.of_block (fun g e hl=>on.block g hl (fun e2=>lV.o.1 g e (by rw[e2];rfl))) on.size);have Zx:=I (Zt.o.of_block (fun g e hl=>on.block g hl (fun e2=>lV.o.2.1 g e (by rw[e2];rfl))) on.size);have Zy:=I (Zv.o.of_block (fun g e hl=>on.block g hl (fun e2=>lV.o.2.2.1 g e (by rw[e2];rfl))) on.size);have B5:=I (Only.later B4.o on (fun g hg=>by have:=lR.o;omega));clear on X4 Zu Zt Zv B4;generalize wa.setCell ⟨X,2,none⟩ (.slice (some ⟨g5,off5,none⟩) (i+1) c5)=w5 at *;refine Ku [0,1,2,3,4,5,6,7,8,9,10,11] [12,13,14,15,16] (fun w'=>aC w' X 113 [.slice qo nq qc,.slice mo nm mc,.slice (some ⟨g5,off5,none⟩) (i+1) c5,.slice ho nh hc,.slice co' i cc']/\Below w.heap.size w w') (by kernel_rfl) (by kernel_rfl) (by kernel_rfl) (fun _ _ d _ _ h=>by cases d<;>exact h) ⟨X5.o.step (aG _ _).drew,B5.o.drew⟩ ?_;simp only[iH,List.filterMap_cons,List.filterMap_nil,List.getElem?_cons_zero,List.getElem?_cons_succ,Option.map_some,List.map_cons,List.map_nil];apply Exists.intro;refine⟨?hh2,?ht2⟩
      case hh2 =>
       intro w' bM;have x4:=bM.1.cell 4 _ rfl;have a4:=(AW.o w' bM.2).cell 4 _ rfl;have k4:=Zr.o w' bM.2;clear bM
       repeat still_step
       exact wpStill_nil rfl
      case ht2 =>
       have BD:=(aG w5.heap.size w5).drew;have X6:=X5.st BD;have Re:=I (Zw.o.below BD);have Rf:=I (Zx.o.below BD);have Zz:=I (Zy.o.below BD);have B6:=B5.tr BD;clear BD X5 Zw Zx Zy B5;generalize w5.drew=w6 at *;refine jT ?_
       go_wp2_with fail
       have bz:=bwA w6 (.cells #[.slice bo nm bc] 87);refine aI ⟨⟨X6.o.step bz,B6.o.trans (bz.mono B6.o.size)⟩,?_⟩;clear bz;refine jT ?_
       go_wp2_with (at_builtin;refine jM 86 87 (.slice none 0 0) 1 24 Tryz.underlying86 Hr rfl (by omega) (by omega) w6 w.heap.size rfl (.tmp 67) (.tmp 75) rfl co' cc' i (vsT i) ?t1 Zz.o B6.o.size 1 1 #[.slice bo nm bc] 87 ?t2 rfl (by omega) ?t3 ?t4 ?_;(case t1=>rfl);(case t2=>rfl);(case t3=>simp[Value.oneCell']);(case t4=>omega);intro g6 off6 c6 wb o8 aX b8 bW;have ae:=I o8;have on:=Wh aX;have B7:=I (B6.o.trans b8);have gM:=I bW;clear o8 aX b8 bW)
       have X7:=I (X6.o.only on (fun e=>lV.o.2.2.1 X e rfl));have ag:=I (Re.o.of_block (fun g e hl=>on.block g hl (fun e2=>lV.o.2.2.2.2.1 g e e2)) on.size);have ah:=I (Rf.o.of_block (fun g e hl=>on.block g hl (fun e2=>lV.o.2.2.2.2.2 g e e2)) on.size);have Kf:Hid (Sep (some ⟨g4,off4,none⟩) (some ⟨X,0,none⟩)/\Sep (some ⟨g5,off5,none⟩) (some ⟨X,0,none⟩)/\Sep (some ⟨g6,off6,none⟩) (some ⟨X,0,none⟩)/\Sep (some ⟨g4,off4,none⟩) (some ⟨g5,off5,none⟩)/\Sep (some ⟨g4,off4,none⟩) (some ⟨g6,off6,none⟩)/\Sep (some ⟨g5,off5,none⟩) (some ⟨g6,off6,none⟩)):=I ⟨lV.o.1,lV.o.2.1,Sep.new gM.o lV.o.2.2.1 (fun x e=>by have e:X=x:=bF e;subst e;exact X6.o.lt),lV.o.2.2.2.1,(Sep.new gM.o lV.o.2.2.2.2.1.symm (fun x e=>(Re.o.blk_lt e).2)).symm,(Sep.new gM.o lV.o.2.2.2.2.2.symm (fun x e=>(Rf.o.blk_lt e).2)).symm⟩;clear on X6 Re Rf Zz lV B6 gM;refine aI ⟨⟨X7.o,B7.o⟩,?_⟩;refine jT ?_
       go_wp2_with fail
       refine aI ⟨⟨X7.o,B7.o⟩,?_⟩;refine jT ?_
       go_wp2_with fail
       refine aI ⟨⟨X7.o,B7.o⟩,?_⟩;refine Kt ?_;have t3:=X7.o.cell 4 _ rfl;have tf:=X7.o.warm 4
       go_upto_region 11 with(fail)
       clear t3 tf;have on:=(Only.refl wb (· = X)).setCell (a:=⟨X,4,none⟩) (.slice (some ⟨g6,off6,none⟩) (i+1) c6) rfl;have X8:=I (X7.o.set 4 (.slice (some ⟨g6,off6,none⟩) (i+1) c6));have yj:=I (ag.o.of_block (fun g e hl=>on.block g hl (fun e2=>Kf.o.1 g e (by rw[e2];rfl))) on.size);have yk:Hid (OwnK (wb.setCell ⟨X,4,none⟩ (.slice (some ⟨g6,off6,none⟩) (i+1) c6)) w.heap.size 4 (i+1) c5 ((usT (i+1)).flatMap cQ) (some ⟨g5,off5,none⟩)):=I (by rw[KZ.o];exact ah.o.of_block (fun g e hl=>on.block g hl (fun e2=>Kf.o.2.1 g e (by rw[e2];rfl))) on.size);have ym:Hid (OwnK (wb.setCell ⟨X,4,none⟩ (.slice (some ⟨g6,off6,none⟩) (i+1) c6)) w.heap.size 1 (i+1) c6 (vsT (i+1)) (some ⟨g6,off6,none⟩)):=I (by rw[Ux.o];exact ae.o.of_block (fun g e hl=>on.block g hl (fun e2=>Kf.o.2.2.1 g e (by rw[e2];rfl))) on.size);have B8:=I (Only.later B7.o on (fun g hg=>by have:=lR.o;omega));clear on X7 ag ah ae B7;generalize wb.setCell ⟨X,4,none⟩ (.slice (some ⟨g6,off6,none⟩) (i+1) c6)=w8 at *
       go_wp2_with fail
       go_roundw
       case rel=>exact⟨i+1,n+1,c4,c5,c6,(some ⟨g4,off4,none⟩),_,_,by go_num,rfl,by omega,by omega,I (by rw[dY.o,Cf.o,if_pos rfl,gL,HN.o];rfl),I (by rw[dY.o,Cf.o,if_pos rfl,<- Hs];exact yj.o),yk,ym,X8,Kf,B8⟩
       case measure=>simp only[intOf];omega
    | false =>
     go_upto_region 9 with(fail)
     refine Ku [0,1,2,3,4,5,6,7,8,9,10,11,12,13] [14,15,16,17,18,19] (fun w'=>aC w' X 113 [.slice qo nq qc,.slice mo nm mc,.slice uo' i uc',.slice ho nh hc,.slice co' i cc']/\Below w.heap.size w w') (by kernel_rfl) (by kernel_rfl) (by kernel_rfl) (fun _ _ d _ _ h=>by cases d<;>exact h) ⟨XV.o.step (aG _ _).drew,BB.o.drew⟩ ?_;simp only[iH,List.filterMap_cons,List.filterMap_nil,List.getElem?_cons_zero,List.getElem?_cons_succ,Option.map_some,List.map_cons,List.map_nil];apply Exists.intro;refine⟨?hh,?ht⟩
     case hh =>
      intro w' bM;have x2:=bM.1.cell 2 _ rfl;have a2:=(AW.o w' bM.2).cell 2 _ rfl;obtain⟨k0,k1,k2,k3⟩:=LC.o w' bM.2;clear bM
      repeat still_step
      exact wpStill_nil rfl
     case ht =>
      have BD:=(aG wr.heap.size wr).drew;have X3:=XV.st BD;have Rc:=I (MI.o.below BD);have Zs:=I (US.o.below BD);have Rd:=I (CN.o.below BD);have B3:=BB.tr BD;have pM:=SP;clear BD;generalize wr.drew=w3 at *;refine jT ?_
      go_wp2_with fail
      have bz:=bwA w3 (.cells #[.int .i64 yq,.int .i64 yw,.int .i64 yf,.int .i64 yh] 39);refine aI ⟨⟨X3.o.step bz,B3.o.trans (bz.mono B3.o.size)⟩,?_⟩;clear bz;refine jT ?_
      go_wp2_with (at_builtin;refine jM 24 39 (.agg #[.int .i64 0,.int .i64 0,.int .i64 0,.int .i64 0]) 4 32 Tryz.underlying24 EZ rfl (by omega) (by omega) w3 w.heap.size rfl (.tmp 49) (.tmp 58) rfl uo' uc' i ((usT i).flatMap cQ) ?t1 Zs.o B3.o.size 1 1 #[.int .i64 yq,.int .i64 yw,.int .i64 yf,.int .i64 yh] 39 ?t2 rfl (by omega) ?t3 ?t4 ?_;(case t1=>rfl);(case t2=>rfl);(case t3=>simp[Value.oneCell']);(case t4=>omega);intro g5 off5 c5 wa o8 aX b8 bW;have Zt:=I o8;have on:=Wh aX;have B4:=I (B3.o.trans b8);have gM:=I bW;clear o8 aX b8 bW)
      have X4:=I (X3.o.only on (fun e=>pM.o.2.1 X e rfl));have Zu:=I (Rc.o.of_block (fun g e hl=>on.block g hl (fun e2=>pM.o.2.2.2.1 g e e2)) on.size);have Zv:=I (Rd.o.of_block (fun g e hl=>on.block g hl (fun e2=>pM.o.2.2.2.2.2 g e2 e)) on.size);have lV:Hid (Sep mi (some ⟨X,0,none⟩)/\Sep (some ⟨g5,off5,none⟩) (some ⟨X,0,none⟩)/\Sep co' (some ⟨X,0,none⟩)/\Sep mi (some ⟨g5,off5,none⟩)/\Sep mi co'/\Sep (some ⟨g5,off5,none⟩) co'):=I ⟨pM.o.1,Sep.new gM.o pM.o.2.1 (fun x e=>by have e:X=x:=bF e;subst e;exact X3.o.lt),pM.o.2.2.1,(Sep.new gM.o pM.o.2.2.2.1.symm (fun x e=>(Rc.o.blk_lt e).2)).symm,pM.o.2.2.2.2.1,Sep.new gM.o pM.o.2.2.2.2.2 (fun x e=>(Rd.o.blk_lt e).2)⟩;clear on X3 Rc Zs Rd pM B3 gM;refine aI ⟨⟨X4.o,B4.o⟩,?_⟩;refine jT ?_
      go_wp2_with fail
      refine aI ⟨⟨X4.o,B4.o⟩,?_⟩;refine jT ?_
      go_wp2_with fail
      refine aI ⟨⟨X4.o,B4.o⟩,?_⟩;refine jT ?_
      go_wp2_with fail
      refine aI ⟨⟨X4.o,B4.o⟩,?_⟩;refine Kt ?_;have t3:=X4.o.cell 2 _ rfl;have tf:=X4.o.warm 2
      go_upto_region 10 with(fail)
      clear t3 tf;have on:=(Only.refl wa (· = X)).setCell (a:=⟨X,2,none⟩) (.slice (some ⟨g5,off5,none⟩) (i+1) c5) rfl;have X5:=I (X4.o.set 2 (.slice (some ⟨g5,off5,none⟩) (i+1) c5));have Zw:=I (Zu.o.of_block (fun g e hl=>on.block g hl (fun e2=>lV.o.1 g e (by rw[e2];rfl))) on.size);have Zx:=I (Zt.o.of_block (fun g e hl=>on.block g hl (fun e2=>lV.o.2.1 g e (by rw[e2];rfl))) on.size);have Zy:=I (Zv.o.of_block (fun g e hl=>on.block g hl (fun e2=>lV.o.2.2.1 g e (by rw[e2];rfl))) on.size);have B5:=I (Only.later B4.o on (fun g hg=>by have:=lR.o;omega));clear on X4 Zu Zt Zv B4;generalize wa.setCell ⟨X,2,none⟩ (.slice (some ⟨g5,off5,none⟩) (i+1) c5)=w5 at *;refine Ku [0,1,2,3,4,5,6,7,8,9,10,11] [12,13,14,15,16] (fun w'=>aC w' X 113 [.slice qo nq qc,.slice mo nm mc,.slice (some ⟨g5,off5,none⟩) (i+1) c5,.slice ho nh hc,.slice co' i cc']/\Below w.heap.size w w') (by kernel_rfl) (by kernel_rfl) (by kernel_rfl) (fun _ _ d _ _ h=>by cases d<;>exact h) ⟨X5.o.step (aG _ _).drew,B5.o.drew⟩ ?_;simp only[iH,List.filterMap_cons,List.filterMap_nil,List.getElem?_cons_zero,List.getElem?_cons_succ,Option.map_some,List.map_cons,List.map_nil];apply Exists.intro;refine⟨?hh2,?ht2⟩
      case hh2 =>
       intro w' bM;have x4:=bM.1.cell 4 _ rfl;have a4:=(AW.o w' bM.2).cell 4 _ rfl;have k4:=Zr.o w' bM.2;clear bM
       repeat still_step
       exact wpStill_nil rfl
      case ht2 =>
       have BD:=(aG w5.heap.size w5).drew;have X6:=X5.st BD;have Re:=I (Zw.o.below BD);have Rf:=I (Zx.o.below BD);have Zz:=I (Zy.o.below BD);have B6:=B5.tr BD;clear BD X5 Zw Zx Zy B5;generalize w5.drew=w6 at *;refine jT ?_
       go_wp2_with fail
       have bz:=bwA w6 (.cells #[.slice bo nm bc] 87);refine aI ⟨⟨X6.o.step bz,B6.o.trans (bz.mono B6.o.size)⟩,?_⟩;clear bz;refine jT ?_
       go_wp2_with (at_builtin;refine jM 86 87 (.slice none 0 0) 1 24 Tryz.underlying86 Hr rfl (by omega) (by omega) w6 w.heap.size rfl (.tmp 67) (.tmp 75) rfl co' cc' i (vsT i) ?t1 Zz.o B6.o.size 1 1 #[.slice bo nm bc] 87 ?t2 rfl (by omega) ?t3 ?t4 ?_;(case t1=>rfl);(case t2=>rfl);(case t3=>simp[Value.oneCell']);(case t4=>omega);intro g6 off6 c6 wb o8 aX b8 bW;have ae:=I o8;have on:=Wh aX;have B7:=I (B6.o.trans b8);have gM:=I bW;clear o8 aX b8 bW)
       have X7:=I (X6.o.only on (fun e=>lV.o.2.2.1 X e rfl));have ag:=I (Re.o.of_block (fun g e hl=>on.block g hl (fun e2=>lV.o.2.2.2.2.1 g e e2)) on.size);have ah:=I (Rf.o.of_block (fun g e hl=>on.block g hl (fun e2=>lV.o.2.2.2.2.2 g e e2)) on.size);have Kf:Hid (Sep mi (some ⟨X,0,none⟩)/\Sep (some ⟨g5,off5,none⟩) (some ⟨X,0,none⟩)/\Sep (some ⟨g6,off6,none⟩) (some ⟨X,0,none⟩)/\Sep mi (some ⟨g5,off5,none⟩)/\Sep mi (some ⟨g6,off6,none⟩)/\Sep (some ⟨g5,off5,none⟩) (some ⟨g6,off6,none⟩)):=I ⟨lV.o.1,lV.o.2.1,Sep.new gM.o lV.o.2.2.1 (fun x e=>by have e:X=x:=bF e;subst e;exact X6.o.lt),lV.o.2.2.2.1,(Sep.new gM.o lV.o.2.2.2.2.1.symm (fun x e=>(Re.o.blk_lt e).2)).symm,(Sep.new gM.o lV.o.2.2.2.2.2.symm (fun x e=>(Rf.o.blk_lt e).2)).symm⟩;clear on X6 Re Rf Zz lV B6 gM;refine aI ⟨⟨X7.o,B7.o⟩,?_⟩;refine jT ?_
       go_wp2_with fail
       refine aI ⟨⟨X7.o,B7.o⟩,?_⟩;refine jT ?_
       go_wp2_with fail
       refine aI ⟨⟨X7.o,B7.o⟩,?_⟩;refine Kt ?_;have t3:=X7.o.cell 4 _ rfl;have tf:=X7.o.warm 4
       go_upto_region 11 with(fail)
       clear t3 tf;have on:=(Only.refl wb (· = X)).setCell (a:=⟨X,4,none⟩) (.slice (some ⟨g6,off6,none⟩) (i+1) c6) rfl;have X8:=I (X7.o.set 4 (.slice (some ⟨g6,off6,none⟩) (i+1) c6));have yj:=I (ag.o.of_block (fun g e hl=>on.block g hl (fun e2=>Kf.o.1 g e (by rw[e2];rfl))) on.size);have yk:Hid (OwnK (wb.setCell ⟨X,4,none⟩ (.slice (some ⟨g6,off6,none⟩) (i+1) c6)) w.heap.size 4 (i+1) c5 ((usT (i+1)).flatMap cQ) (some ⟨g5,off5,none⟩)):=I (by rw[KZ.o];exact ah.o.of_block (fun g e hl=>on.block g hl (fun e2=>Kf.o.2.1 g e (by rw[e2];rfl))) on.size);have ym:Hid (OwnK (wb.setCell ⟨X,4,none⟩ (.slice (some ⟨g6,off6,none⟩) (i+1) c6)) w.heap.size 1 (i+1) c6 (vsT (i+1)) (some ⟨g6,off6,none⟩)):=I (by rw[Ux.o];exact ae.o.of_block (fun g e hl=>on.block g hl (fun e2=>Kf.o.2.2.1 g e (by rw[e2];rfl))) on.size);have B8:=I (Only.later B7.o on (fun g hg=>by have:=lR.o;omega));clear on X7 ag ah ae B7;generalize wb.setCell ⟨X,4,none⟩ (.slice (some ⟨g6,off6,none⟩) (i+1) c6)=w8 at *
       go_wp2_with fail
       go_roundw
       case rel=>exact⟨i+1,n,cap,c5,c6,mi,_,_,by go_num,rfl,by omega,by omega,I (by rw[dY.o,Cf.o];exact HN.o),I (by rw[dY.o,Cf.o];exact yj.o),yk,ym,X8,Kf,B8⟩
       case measure=>simp only[intOf];omega
   ·have ii:¬ (i:Int)<L:=by omega
    obtain rfl:L=i:=by omega
    have yn:Hid (MF.length=n/\MF=(List.range L).filter pb):=I ⟨by rw[KY.o];exact HN.o,KY.o⟩
    go_wp2_with fail
    go_ret2
    exact⟨⟨X,mi,cap,by rw[yn.o.1];rfl,iB.o wr X _ _ _ _ BB.o lR.o XV.o US.o CN.o,by rw[yn.o.1,yn.o.2];exact MI.o⟩,BB.o⟩
end
section
open Go.RowKit Go.Sort Go.Maps
def nS(y:List Nat->Bool)(size:Nat):List Nat->List Nat->Option (List Nat)
 | [],ch=>if ch.length=size then(if y ch=true then none else some ch) else none
 | x::xs,ch=>if ch.length=size then(if y ch=true then none else some ch) else
  match nS y size xs (ch++[x]) with
  | some r=>some r
  | none=>nS y size xs ch
theorem Zpd(y:List Nat->Bool){size:Nat}(l:List Nat){ch:List Nat}(h:ch.length=size):nS y size l ch=if y ch=true then none else some ch:=by
 cases l<;>(unfold nS;rw[if_pos h])
theorem Zqp(y:List Nat->Bool){size:Nat}{ch:List Nat}(h:ch.length≠size):nS y size [] ch=none:=by unfold nS;rw[if_neg h]
theorem Zpe(y:List Nat->Bool){size:Nat}(x:Nat)(xs:List Nat){ch:List Nat}(h:ch.length≠size):nS y size (x::xs) ch=match nS y size xs (ch++[x]) with | some r=>some r | none=>nS y size xs ch:=by
 conv=>lhs;unfold nS
 rw[if_neg h]
def ChR(W:World)(OB:Nat)(co:Option Addr)(cc:Nat)(ch:List Nat):Prop:=ch.length<=cc/\(co=none->ch.length=0)/\(bE ch=[]\/∃ g off,co=some ⟨g,off,none⟩/\g<W.heap.size/\g≠OB/\dD W g off (bE ch))
theorem ChR.only{W W':World}{OB:Nat}{co:Option Addr}{cc:Nat}{ch:List Nat}(h:ChR W OB co cc ch)(on:Only W W' (· = OB)):ChR W' OB co cc ch:=by
 obtain⟨h1,h2,h3⟩:=h;refine⟨h1,h2,?_⟩;rcases h3 with h | ⟨g,off,e,hg,hn,hr⟩
 ·exact .inl h
 ·exact .inr ⟨g,off,e,gR hg on.size,hn,hr.of_block (on.block g hg hn)⟩
theorem ChR.reads{W:World}{OB:Nat}{co:Option Addr}{cc:Nat}{ch:List Nat}(h:ChR W OB co cc ch):bE ch=[]\/∃ g off,co=some ⟨g,off,none⟩/\g<W.heap.size/\dD W g off (bE ch):=by
 rcases h.2.2 with h | ⟨g,off,e,hg,hn,hr⟩
 ·exact .inl h
 ·exact .inr ⟨g,off,e,hg,hr⟩
theorem ChR.flat{W:World}{OB:Nat}{co:Option Addr}{cc:Nat}{ch:List Nat}(h:ChR W OB co cc ch):aY aZ W co (ch.map Int.ofNat):=by
 rcases h.reads with h | ⟨g,off,e,hg,hr⟩
 ·left
  unfold bE at h;rw[List.map_eq_nil_iff] at h;rw[h];rfl
 ·exact .inr ⟨g,off,e,hg,by rw[<- ox];exact hr⟩
theorem ChR.of_own{W:World}{OB B n cap:Nat}{co:Option Addr}{ch:List Nat}(h:OwnK W B 1 n cap (bE ch) co)(hn:n=ch.length)(hB:OB<B):ChR W OB co cap ch:=by
 cases h with
 | nil h1 h2 h3=>exact⟨by omega,fun _=>by omega,.inl h1⟩
 | «at» g off h1 h2 h3 h4=>exact⟨by omega,fun e=>(by cases e),.inr ⟨g,off,rfl,h1.lt,by have:=h1.own;omega,fun j u hj=>h1.cells j u hj⟩⟩
structure SubW (W:World) (OB S Y L CB size:Nat) (yv:Value) (lo:Option Addr) (lc:Nat) (l:List Nat):Prop where
 s:aC W S 3 [.int .i64 (size:Int)]
 y:aC W Y 132 [yv]
 ls:aC W L 33 [.slice lo l.length lc]
 c:aC W CB 175 [.func (.func 153) #[] #[.pointer (some ⟨S,0,none⟩),.pointer (some ⟨Y,0,none⟩),.pointer (some ⟨L,0,none⟩),.pointer (some ⟨CB,0,none⟩)]]
 r:ChR W OB lo lc l
theorem SubW.only{W W':World}{OB S Y L CB size:Nat}{yv:Value}{lo:Option Addr}{lc:Nat}{l:List Nat}(h:SubW W OB S Y L CB size yv lo lc l)(on:Only W W' (· = OB))(hd:S≠OB/\Y≠OB/\L≠OB/\CB≠OB):SubW W' OB S Y L CB size yv lo lc l :=
 ⟨h.s.only on hd.1,h.y.only on hd.2.1,h.ls.only on hd.2.2.1,h.c.only on hd.2.2.2,h.r.only on⟩
def FO(W:World)(OB:Nat)(r:Option (List Nat)):Prop:=∃ v,aC W OB 33 [v]/\∀ l,r=some l->∃ ko kc,v = .slice ko l.length kc/\ChR W OB ko kc l
theorem Zxw(w:World)(ao:Option Addr)(n cap:Nat)(hc:n<=cap)(ho:ao=none->n=0) :
  Calls Tryz.prog 154 #[.slice ao n cap] w fun e w'=>e = .returned (.slice ao n n)/\w'=w:=by
 have h0:(0:Int)<=(n:Int):=by omega
 have h1:(n:Int)<=(cap:Int):=by omega
 cases ao with
 | none =>
  obtain rfl:=ho rfl
  go_enter Tryz.func154,Tryz.ntmps154
  go_wp2
  go_ret;exact⟨by simp,rfl⟩
 | some a =>
  go_enter Tryz.func154,Tryz.ntmps154
  go_wp2
  go_ret;exact⟨by simp,rfl⟩
structure YldW (OB:Nat) (Inv:World->Prop) (Pch:List Nat->Prop) (yf:Nat) (ycb:Array Value) (y:List Nat->Bool):Prop where
 enters:∀ args w,(callFunc yf args).run Tryz.prog w = .ok (.enter yf args) w
 only:∀ W W',Inv W->Only W W' (· = OB)->Inv W'
 calls:∀ W v co cc ch,Inv W->aC W OB 33 [v]->ChR W OB co cc ch->ch.length<=999->Pch ch->Calls Tryz.prog yf (#[.slice co ch.length cc]++ycb) W fun e W'=>e = .returned (.bool (y ch))/\Only W W' (· = OB)/\FO W' OB (some ch)
theorem Z4i(t:Array Value)(h:t.size=37):∃ f:Nat->Value,t=#[f 0,f 1,f 2,f 3,f 4,f 5,f 6,f 7,f 8,f 9,f 10,f 11,f 12,f 13,f 14,f 15,f 16,f 17,f 18,f 19,f 20,f 21,f 22,f 23,f 24,f 25,f 26,f 27,f 28,f 29,f 30,f 31,f 32,f 33,f 34,f 35,f 36]/\∀ d,t.getD d undef=f d:=by
 obtain⟨l⟩:=t;have hl:l.length=37:=h
 have e:l=(List.range 37).map (fun i=>l.getD i undef):=by
  apply List.ext_getElem
  ·simp[hl]
  ·intro i h1 h2
   simp[List.getD,h1]
 exact⟨fun i=>l.getD i undef,congrArg List.toArray e,fun d=>by simp⟩
def sbF(S Y L CB WS q x cl cc ll lc gl ol:Nat)(co:Option Addr)(chv:List Value)(i:Nat)(W:World)(v:Value):Prop:=match i with
 | 0=>v = .func (.func 153) #[] #[.pointer (some ⟨S,0,none⟩),.pointer (some ⟨Y,0,none⟩),.pointer (some ⟨L,0,none⟩),.pointer (some ⟨CB,0,none⟩)]
 | 1=>v = .int .i64 (q:Nat)
 | 2=>v = .int .i64 ((q:Int)+1)
 | 3=>v = .slice co cl cc
 | 4=>v = .slice co cl cl
 | 5=>v = .slice (some ⟨gl,ol,none⟩) ll lc
 | 6=>v = .int .i64 (q:Nat)
 | 7=>v = .pointer (some ⟨gl,ol+q,none⟩)
 | 8=>v = .int .i64 (x:Nat)
 | 9=>∃ V,v = .slice (some ⟨V,0,none⟩) 1 1/\aC W V 3 [.int .i64 (x:Nat)]
 | 10=>∃ g cap,v = .slice (some ⟨g,0,none⟩) (cl+1) cap/\OwnK W WS 1 (cl+1) cap (chv++[.int .i64 (x:Nat)]) (some ⟨g,0,none⟩)
 | _=>True
theorem Z0t(S Y L CB WS q x cl cc ll lc gl ol:Nat)(co:Option Addr)(chv:List Value):∀ i w w' v,sbF S Y L CB WS q x cl cc ll lc gl ol co chv i w v->Below w.heap.size w w'->sbF S Y L CB WS q x cl cc ll lc gl ol co chv i w' v:=by
 intro i w w' v h hb
 match i with
 | 0=>exact h
 | 1=>exact h
 | 2=>exact h
 | 3=>exact h
 | 4=>exact h
 | 5=>exact h
 | 6=>exact h
 | 7=>exact h
 | 8=>exact h
 | 9=>obtain⟨V,h1,h2⟩:=h;exact⟨V,h1,h2.step hb⟩
 | 10=>obtain⟨g,cap,h1,h2⟩:=h;exact⟨g,cap,h1,h2.below hb⟩
 | k+11=>trivial
theorem Zt6(OB S Y L CB size:Nat)(Inv:World->Prop)(Pch:List Nat->Prop)(yf:Nat)(ycb:Array Value)(y:List Nat->Bool)(hY:YldW OB Inv Pch yf ycb y)(l:List Nat)(hPc:∀ ch x,Pch ch->x∈l->Pch (ch++[x]))(lo:Option Addr)(lc:Nat)(hl:l.length<=999)(hd:S≠OB/\Y≠OB/\L≠OB/\CB≠OB) :
  ∀ (n j:Nat),n+j=l.length->∀ (w:World) (v:Value) (co:Option Addr) (cc:Nat) (ch:List Nat),Inv w->SubW w OB S Y L CB size (.func (.func yf) #[] ycb) lo lc l->aC w OB 33 [v]->ChR w OB co cc ch->ch.length<=j->Pch ch->OB<w.heap.size ->
  Calls Tryz.prog 153 #[.int .i64 (j:Int),.slice co ch.length cc,.pointer (some ⟨S,0,none⟩),.pointer (some ⟨Y,0,none⟩),.pointer (some ⟨L,0,none⟩),.pointer (some ⟨CB,0,none⟩)] w fun e w'=>e = .returned (.bool (nS y size (l.drop j) ch).isNone)/\Only w w' (· = OB)/\FO w' OB (nS y size (l.drop j) ch):=by
 intro n
 induction n using Nat.strongRecOn with
 | ind n IH =>
 intro j hnj w v co cc ch hI hS hO hC KA hPx hOB;have LD:=I hPx;have nO:=I hPc;have gN:=I IH;have HI:=I hI;have HS:=I hS;have HO:=I hO;have HC:=I hC;have HD:=I hd;have HY:=I hY;have HOB:=I hOB;have egy:=hY.enters;have egc:∀ args w,(callFunc 153 args).run Tryz.prog w = .ok (.enter 153 args) w:=enters_of Tryz.func153 (by kernel_rfl) rfl;have s0:=hS.s.cell 0 _ rfl;have y0:=hS.y.cell 0 _ rfl;have Uz:=I (fun(h:ch.length=size)=>Zpd y (l.drop j) h);have Va:=I (fun(h:ch.length≠size)=>Zqp y h);have rQ:=I (fun x xs (h:ch.length≠size)=>Zpe y x xs h);obtain⟨cX,hRES⟩:=exq (nS y size (l.drop j) ch);have aj:=I hRES;rw[hRES] at Uz;rw[hRES];clear hI hS hO hC hd hY hRES IH hPx hPc;generalize dW:ch.length=cl at *;have tF:=I dW;generalize fX:l.length=ll at *;have Df:=I fX;clear dW fX
 go_enter Tryz.func153,Tryz.ntmps153
 by_cases iK:cl=size
 ·subst iK
  have HR:Hid (cX=if y ch=true then none else some ch):=I (Uz.o rfl);have cA:=I (HY.o.calls w v co cc ch HI.o HO.o HC.o (by rw[tF.o];omega) LD.o);rw[tF.o] at cA;obtain⟨yb,xm⟩:=exq (y ch);rw[xm] at cA HR;clear xm
  go_wp2_with fail
  refine cA.o.mono ?_;rintro e w2 ⟨rfl,on,hq⟩;have ON:=I on;have HQ:=I hq;clear on hq cA s0 y0
  go_wp2_with fail
  go_ret
  cases yb with
  | true =>
   have lS:cX=none:=by rw[HR.o];rfl
   rw[lS];refine⟨rfl,ON.o,?_⟩;obtain⟨v2,h1,-⟩:=HQ.o;exact⟨v2,h1,fun l h=>by cases h⟩
  | false =>
   have lS:cX=some ch:=by rw[HR.o];rfl
   rw[lS];exact⟨rfl,ON.o,HQ.o⟩
 ·have sne:¬ (cl:Int)=(size:Int):=by omega
  have sneb:((cl:Int)==(size:Int))=false:=by simpa using sne
  have yr:=I (Va.o (by omega));have yt:=I (fun x xs=>rQ.o x xs (by omega));clear Va rQ Uz
  go_wp2_with fail
  clear s0 y0 egy;have Gg:Hid (nS y size (l.drop j) ch=cX):=aj;have LE:=I (Only.refl w (· = OB))
  go_loopw [9] (fun iv wr=>∃ (q:Nat) (v:Value),iv = .int .i64 q/\j<=q/\q<=ll/\Hid (nS y size (l.drop q) ch=cX)/\Hid (Only w wr (· = OB))/\Hid (aC wr OB 33 [v])) (fun q _=>(ll-intOf q).toNat)
  case atStart=>exact⟨j,v,rfl,aO _,by omega,Gg,LE,HO⟩
  case round =>
   clear Gg LE aj;obtain⟨q,v1,rfl,iI,vY,HE,ON,Gu⟩:=hrel;have e2:=w1i q (by omega);have oQ:=I (HS.o.only ON.o HD.o);have q0:=oQ.o.ls.cell 0 _ rfl;rw[Df.o] at q0;by_cases aT:q<ll
   ·have ii:(q:Int)<ll:=by omega
    obtain⟨x,hx⟩:∃ x,l[q]?=some x:=⟨_,aL (by rw[Df.o];exact aT)⟩
    have jz:Hid (l.drop q=x::l.drop (q+1)):=I (by
     have aE:q<l.length:=by rw[Df.o];exact aT
     have GY:l[q]=x:=by rw[aL aE] at hx;exact bF hx
     rw[List.drop_eq_getElem_cons aE,GY])
    have iY:Hid ((match nS y size (l.drop (q+1)) (ch++[x]) with | some r=>some r | none=>nS y size (l.drop (q+1)) ch)=cX):=I (by rw[<- yt.o,<- jz.o];exact HE.o)
    obtain⟨gl,ol,fI,dT,-,aH⟩:∃ g off,lo=some ⟨g,off,none⟩/\g<wr.heap.size/\g≠OB/\dD wr g off (bE l):=by
     rcases oQ.o.r.2.2 with h | h
     ·unfold bE at h
      rw[List.map_eq_nil_iff] at h;rw[h] at hx;simp at hx
     ·exact h
    have Pz:=I (aH q _ (Wk hx));have uT:=I dT;have C1:=I oQ.o.c;have L1:Hid (aC wr L 33 [.slice lo ll lc]):=I (by rw[<- Df.o];exact oQ.o.ls);have Dg:=I (HC.o.only ON.o);have ik:=I Dg.o.reads;have tP:Hid (co=none->cl=0):=I (by rw[<- tF.o];exact Dg.o.2.1);have cA:Hid ((bE ch).length=cl*1):=I (by rw[nz,tF.o,Nat.mul_one]);have am:=I (fun W=>Zxw W co cl cc (by rw[<- tF.o];exact Dg.o.1) tP.o);have LF:=I (HY.o.only w wr HI.o ON.o);have bK:Hid (Pch (ch++[x])):=I (nO.o ch x LD.o (bU hx));have Gd:=I fI;have ap:Hid (OB<wr.heap.size):=I Gu.o.lt;have yu:Hid (bE ch++[.int .i64 (x:Int)]=bE (ch++[x])):=I (Hs ch x);subst fI;clear dT aH hx;generalize Pe:bE ch=chv at *;clear Pe
    go_upto_region 6 with(fail)
    clear q0;refine Ff 11 1 (sbF S Y L CB wr.heap.size q x cl cc ll lc gl ol co chv) (by kernel_rfl) rfl (Z0t S Y L CB wr.heap.size q x cl cc ll lc gl ol co chv) (jD (by kernel_rfl)) (Fe (by kernel_rfl)) (iV (by kernel_rfl)) (Fg (by kernel_rfl)) ?hs ?he
    case hs =>
     intro i o aT hi listed a' w' H bA aU;have hb:=I H.below;obtain⟨t',df⟩:=a';obtain⟨f',rfl,-⟩:=Z4i t' H.tsize;obtain rfl:df=[]:=H.defers;have cG:f' 1 = .slice co cl cc:=bA 1 (gK (by kernel_rfl));have bY:f' 4 = .pointer (some ⟨L,0,none⟩):=bA 4 (gK (by kernel_rfl));have cD:f' 5 = .pointer (some ⟨CB,0,none⟩):=bA 5 (gK (by kernel_rfl));have eP:f' 9 = .int .i64 (q:Nat):=bA 9 (gK (by kernel_rfl));have aA:=H.hC aU;clear aU H bA;have bP:i=0\/i=1\/i=2\/i=3\/i=4\/i=5\/i=6\/i=7\/i=8\/i=9\/i=10:=VX i aT;clear aT;rcases bP with rfl | rfl | rfl | rfl | rfl | rfl | rfl | rfl | rfl | rfl | rfl<;>obtain rfl:=bF hi;rw[cD];have c0:=(C1.o.step hb.o).cell 0 _ rfl
     rotate_left
     rw[eP]
     rotate_left
     rw[show f' 25=_ from aA 1 25 rfl]
     rotate_left
     rw[cG]
     rotate_left
     ·have dC:f' 27=_:=aA 3 27 rfl
      clear aA;rw[dC];clear dC cG bY cD eP;refine aP rfl ?_
      go_wp2_with fail
      refine(am.o w').mono ?_;rintro e w4 ⟨rfl,rfl⟩
      go_wp2_with fail
      exact aI ⟨_,rfl,aG _ _,rfl⟩
     rw[bY];have c0:=(L1.o.step hb.o).cell 0 _ rfl
     rotate_left
     rw[eP]
     rotate_left
     rw[show f' 29=_ from aA 5 29 rfl,show f' 30=_ from aA 6 30 rfl]
     rotate_left
     rw[show f' 31=_ from aA 7 31 rfl]
     have l0:w'.cell? ⟨gl,ol+q,none⟩=some (.int .i64 (x:Int)):=by rw[rJ (w:=wr) (a:=⟨gl,ol+q,none⟩) (hb.o.block gl uT.o)];exact Pz.o
     rotate_left
     ·have fE:f' 32=_:=aA 8 32 rfl
      clear aA;rw[fE];clear fE cG bY cD eP;have bx:=bwA w' (.cells #[.int .i64 (x:Nat)] 3);have HV:=hnw w' 3 [.int .i64 (x:Nat)];have BX:=I bx;clear bx;refine aP rfl ?_
      go_wp2_with fail
      exact aI ⟨_,rfl,BX.o,w'.heap.size,rfl,HV.o⟩
     ·have fL:f' 28=_:=aA 4 28 rfl
      have oA:sbF S Y L CB wr.heap.size q x cl cc ll lc gl ol co chv 9 w' (f' 33):=aA 9 33 rfl;obtain⟨V,oA,hV⟩:=oA;clear aA;rw[fL,oA];clear fL oA cG bY cD eP;have HV:=I hV;clear hV
      have Vb:Hid (chv=[]\/∃ g off,co=some ⟨g,off,none⟩/\g<w'.heap.size/\dD w' g off chv):=I (by
       rcases ik.o with h | ⟨g,off,h1,h2,h3⟩
       ·exact .inl h
       ·exact .inr ⟨g,off,h1,gR h2 hb.o.size,h3.of_block (hb.o.block g h2)⟩)
      refine aP rfl ?_;refine EY 33 3 (.int .i64 0) 1 8 Tryz.underlying33 sE rfl (by omega) (by omega) w' rfl (.tmp 28) (.tmp 33) rfl co cl chv ?q1 tP.o cA.o Vb.o V 1 1 [.int .i64 (x:Nat)] 3 ?q2 HV.o rfl (by omega) ?q3 ?q4 ?_
      case q1=>rfl
      case q2=>rfl
      case q3=>simp[Value.oneCell']
      case q4=>omega
      intro g5 c5 wa o8 b8;have O5:=I (o8.low hb.o.size);have B5:=I b8;clear o8 b8
      go_wp2_with fail
      exact aI ⟨_,rfl,B5.o,g5,c5,rfl,O5.o⟩
     all_goals clear aA cG bY cD eP
     all_goals (refine aP rfl ?_;go_wp2_with fail;exact aI ⟨_,rfl,aG _ _,rfl⟩)
    case he =>
     intro listed a' w4 H bA aD;have rC:=H.done 0 _ 24 rfl (aD 0 (by decide)) rfl;have uG:=H.done 2 _ 26 rfl (aD 2 (by decide)) rfl;have Cv:=H.done 10 _ 34 rfl (aD 10 (by decide)) rfl;have aK:=I H.below;obtain⟨zf,hz,rfl⟩:=H.actNz bA [24,25,26,27,28,29,30,31,32,33,34] (Fh (by kernel_rfl));rw[hz] at rC uG Cv;clear H aD bA hz;simp only[fcL,fnL,Act.put,sbT,scS,scZ];rw[show zf 24=_ from rC];clear rC;rw[show zf 26=_ from uG];clear uG;obtain⟨g5,c5,Yv,hO5⟩:=Cv;rw[Yv];clear Yv
     have O5:Hid (ChR w4 OB (some ⟨g5,0,none⟩) c5 (ch++[x])):=I (by
      have h:=hO5;rw[yu.o] at h
      exact ChR.of_own h (by rw[gL,tF.o];rfl) ap.o)
     have Rg:Hid (Only wr w4 (· = OB)):=I (Only.of_below aK.o);have rT:=I (gN.o (ll-(q+1)) (by omega) (q+1) (by omega) w4 v1 (some ⟨g5,0,none⟩) c5 (ch++[x]) (HY.o.only _ _ LF.o Rg.o) (oQ.o.only Rg.o HD.o) (Gu.o.only (Only.of_below (p:=fun _=>False) aK.o) (fun h=>h)) O5.o (by rw[gL,tF.o];show cl+1<=q+1;omega) bK.o (gR ap.o aK.o.size));have qW:Hid ((ch++[x]).length=cl+1):=I (by rw[gL,tF.o];rfl);rw[qW.o] at rT;obtain⟨K9,hSUB⟩:=exq (nS y size (l.drop (q+1)) (ch++[x]));rw[hSUB] at rT iY;clear hSUB hO5 C1 L1 oQ LF Dg ik am Gu aK;refine nE (aP rfl ?_)
     go_wp2_with fail
     refine rT.o.mono ?_;rintro e w5 ⟨rfl,LG,kd⟩;have wO:=I (ON.o.trans (Rg.o.trans LG));have LH:=I kd;clear LG kd rT Rg ON
     cases K9 with
     | some r =>
      have HR:Hid (cX=some r):=I iY.o.symm
      go_wp2_with fail
      refine aI (nE (aP rfl ?_))
      go_wp2_with fail
      refine aI (vM ?_)
      go_wp2_with fail
      go_ret;rw[HR.o];exact⟨rfl,wO.o,LH.o⟩
     | none =>
      have HR:Hid (nS y size (l.drop (q+1)) ch=cX):=I iY.o;obtain⟨v5,h5,-⟩:=LH.o;have io:=I h5;clear h5
      go_wp2_with fail
      refine aI (nE (aP rfl ?_))
      go_wp2_with fail
      refine aI (vM ?_)
      go_wp2_with fail
      go_roundw
      case rel=>exact⟨q+1,v5,by go_num,by omega,by omega,HR,wO,io⟩
      case measure=>simp only[intOf];omega
   ·have ii:¬ (q:Int)<ll:=by omega
    obtain rfl:ll=q:=by omega
    have HR:Hid (cX=none):=I (by
     rw[<- HE.o,<- yr.o,<- Df.o,List.drop_length])
    go_wp2_with fail
    go_ret;rw[HR.o];exact⟨rfl,ON.o,v1,Gu.o,fun l h=>by cases h⟩
end
section
open Go.RowKit Go.Sort Go.Maps
theorem Zqq (OB size:Nat) (Inv:World->Prop) (Pch:List Nat->Prop) (yf:Nat) (ycb:Array Value) (y:List Nat->Bool) (hY:YldW OB Inv Pch yf ycb y) (l:List Nat) (hPc:∀ ch x,Pch ch->x∈l->Pch (ch++[x])) (hP0:Pch []) (lo:Option Addr) (lc:Nat) (hl:l.length<=999)
  (w:World) (v:Value) (hI:Inv w) (hO:aC w OB 33 [v]) (hC:ChR w OB lo lc l) :
  Calls Tryz.prog 100 #[.slice lo l.length lc,.int .i64 (size:Int),.func (.func yf) #[] ycb] w fun e w'=>e = .returned (.bool (nS y size l []).isNone)/\Only w w' (· = OB)/\FO w' OB (nS y size l []):=by
 have aE:=hO.lt;have LI:=aC.new w 33 [.slice lo l.length lc];have kO:=bwA w (.cells [.slice lo l.length lc].toArray 33);generalize rE:w.alloc (.cells [.slice lo l.length lc].toArray 33)=w1 at *
 have nP:w1.heap.size=w.heap.size+1:=by rw[<- rE,eH]
 have zO:=aC.newAt w1 3 [.int .i64 (size:Int)] (w.heap.size+1) nP.symm;have fH:=bwA w1 (.cells [.int .i64 (size:Int)].toArray 3);have LJ:=LI.step fH;generalize yX:w1.alloc (.cells [.int .i64 (size:Int)].toArray 3)=w2 at *
 have pH:w2.heap.size=w.heap.size+1+1:=by rw[<- yX,eH,nP]
 have LK:=aC.newAt w2 132 [.func (.func yf) #[] ycb] (w.heap.size+1+1) pH.symm;have lL:=bwA w2 (.cells [.func (.func yf) #[] ycb].toArray 132);have LL:=LJ.step lL;have Gk:=zO.step lL;generalize kA:w2.alloc (.cells [.func (.func yf) #[] ycb].toArray 132)=w3 at *
 have Vc:w3.heap.size=w.heap.size+1+1+1:=by rw[<- kA,eH,pH]
 have Ut:=aC.newAt w3 175 [.nilFunc] (w.heap.size+1+1+1) Vc.symm;have aK:=bwA w3 (.cells [.nilFunc].toArray 175);have Jt:=I (LL.step aK);have LM:=I (Gk.step aK);have LN:=I (LK.step aK);have Uu:=I Ut;have B4:=I (kO.trans ((fH.trans ((lL.trans (aK.mono lL.size)).mono fH.size)).mono kO.size));have LO:=I hY;have HI:=I hI;have HO:=I hO;have HC:=I hC;have nO:=I hPc;have M0:=I hP0;have mA:Hid (OB<w.heap.size):=I aE
 have hw:(((w.alloc (.cells #[.slice lo l.length lc] 33)).alloc (.cells #[.int .i64 (size:Int)] 3)).alloc (.cells #[.func (.func yf) #[] ycb] 132))=w3:=by rw[<- kA,<- yX,<- rE]
 have ke:=I hw;clear rE yX kA kO fH lL aK LI zO LJ LK LL Gk Ut nP pH Vc hY hI hO hC hPc hP0 aE hw;generalize fX:l.length=ll at *;have qH:=I fX;clear fX
 go_enter Tryz.func100,Tryz.ntmps100
 go_upto_region 2 with(fail)
 rw[ke.o];have c0:=Uu.o.cell 0 _ rfl;have cf:=Uu.o.warm 0;generalize w3.alloc (.cells [.nilFunc].toArray 175)=w4 at *;have on:=(Only.refl w4 (· = w.heap.size+1+1+1)).setCell (a:=⟨w.heap.size+1+1+1,0,none⟩) (.func (.func 153) #[] #[.pointer (some ⟨w.heap.size+1,0,none⟩),.pointer (some ⟨w.heap.size+1+1,0,none⟩),.pointer (some ⟨w.heap.size,0,none⟩),.pointer (some ⟨w.heap.size+1+1+1,0,none⟩)]) rfl;have C5:=I (Uu.o.set 0 (.func (.func 153) #[] #[.pointer (some ⟨w.heap.size+1,0,none⟩),.pointer (some ⟨w.heap.size+1+1,0,none⟩),.pointer (some ⟨w.heap.size,0,none⟩),.pointer (some ⟨w.heap.size+1+1+1,0,none⟩)]));have S5:=I (LM.o.only on (by omega));have Y5:=I (LN.o.only on (by omega));have L5:=I (Jt.o.only on (by omega));have B5:=I (Only.later B4.o on (fun g hg=>by omega));clear on Uu LM LN Jt B4
 have up:∀ (fn:Fn) (a b:Array Value) (p:Addr) (m:Mode) (w:World),(store p (.func fn a b) m).run Tryz.prog w=stored Tryz.prog w p (.func fn a b) m:=fun fn a b p m w=>run_store Tryz.prog w p _ m rfl
 go_upto_region 3 with(fail)
 clear c0 cf up;generalize w4.setCell ⟨w.heap.size+1+1+1,0,none⟩ (.func (.func 153) #[] #[.pointer (some ⟨w.heap.size+1,0,none⟩),.pointer (some ⟨w.heap.size+1+1,0,none⟩),.pointer (some ⟨w.heap.size,0,none⟩),.pointer (some ⟨w.heap.size+1+1+1,0,none⟩)])=w5 at *;have wO:Hid (Only w w5 (· = OB)):=I (Only.of_below B5.o);have egc:∀ args w,(callFunc 153 args).run Tryz.prog w = .ok (.enter 153 args) w:=enters_of Tryz.func153 (by kernel_rfl) rfl;have HD:Hid (w.heap.size+1≠OB/\w.heap.size+1+1≠OB/\w.heap.size≠OB/\w.heap.size+1+1+1≠OB):=I (by have:=mA.o;omega);have rT:=I (Zt6 OB (w.heap.size+1) (w.heap.size+1+1) w.heap.size (w.heap.size+1+1+1) size Inv Pch yf ycb y LO.o l nO.o lo lc (by rw[qH.o];exact hl) HD.o l.length 0 (by omega) w5 v none 0 [] (LO.o.only w w5 HI.o wO.o) ⟨S5.o,Y5.o,by rw[qH.o];exact L5.o,C5.o,HC.o.only wO.o⟩ (HO.o.step B5.o) ⟨aO _,fun _=>rfl,.inl rfl⟩ (aO _) M0.o (gR mA.o B5.o.size));have c1:=C5.o.cell 0 _ rfl;clear C5 S5 Y5 L5 HC HO HI;rw[List.drop_zero] at rT
 go_wp2_with fail
 refine rT.o.mono ?_;rintro e w6 ⟨rfl,LP,hq⟩;have HQ:=I hq;have M2:=I (wO.o.trans LP);clear LP hq rT c1
 go_wp2_with fail
 go_ret;exact⟨rfl,M2.o,HQ.o⟩
theorem Zt7(w:World)(OB:Nat)(co:Option Addr)(cc:Nat)(ch:List Nat)(hC:ChR w OB co cc ch)(hl:ch.length<=1000000)(hO:OB<w.heap.size) :
  Calls Tryz.prog 103 #[.slice co ch.length cc] w fun e w'=>(∃ ko kc,e = .returned (.slice ko ch.length kc)/\ChR w' OB ko kc ch)/\Below w.heap.size w w':=by
 obtain⟨h1,h2,h3⟩:=hC
 cases ch with
 | nil =>
  cases co with
  | none =>
   refine(Tryz.slices_Clone_int_nil 0 cc w).mono ?_;rintro e w' ⟨rfl,rfl⟩;exact⟨⟨none,0,rfl,aO _,fun _=>rfl,.inl rfl⟩,aG _ _⟩
  | some a =>
   refine(Tryz.slices_Clone_int_zero a cc w).mono ?_;rintro e w' ⟨v',rfl,ho,-,hb⟩;obtain⟨hl,⟨h0,-⟩ | ⟨g,cap,cur,rfl,hB,hg,hc,hm,hs,ht⟩⟩:=ho
   ·exact⟨⟨none,0,by rw[h0];rfl,aO _,fun _=>rfl,.inl rfl⟩,hb⟩
   ·exact⟨⟨some ⟨g,0,none⟩,cap,rfl,Nat.zero_le _,fun e=>(by cases e),.inl rfl⟩,hb⟩
 | cons x xs =>
  rcases h3 with h | ⟨g,off,rfl,hg,hn,hr⟩
  ·cases h
  ·refine(Tryz.slices_Clone_int g off (x::xs).length cc ((x::xs).map Int.ofNat) w (by rw[eB];exact aO _) (by omega) (fun j hj=>?_)).mono ?_
   ·rw[eB] at hj
    have:=hr j _ (Wk (aL hj));rw[this,bR,dK,aL hj];rfl
   ·rintro e w' ⟨v',rfl,ho,-,hb⟩
    obtain⟨g',cap',rfl,hw,uJ,kX,qB⟩:=OwnK.of_row ho (by rw[List.length_cons];omega);refine⟨⟨some ⟨g',0,none⟩,cap',rfl,qB,fun e=>(by cases e),.inr ⟨g',0,rfl,hw.lt,by have:=hw.own;omega,fun j u hj=>?_⟩⟩,hb⟩
    have he:((((x::xs).map Int.ofNat).take (x::xs).length).map (Value.int .i64))=bE (x::xs):=by
     have:(x::xs).length=((x::xs).map Int.ofNat).length:=by rw[eB]
     rw[this,List.take_length,List.map_map];rfl
    rw[he] at hw;exact hw.cells j u hj
theorem Zqr{c:Crw}{C:List (List Bool)}(h:ReckOk c C){ch:List Nat}(hc:∀ u∈ch,u<c.us.length)(hl:ch.length<=999):ReckOk (yP c ch) (xC C ch):=by
 refine⟨by show(ch.map _).length=(ch.map _).length;rw[eB,eB],fun r hr=>?_,fun y hy=>?_,h.tic,h.nm,by show(ch.map _).length<=1000;rw[eB];omega⟩
 ·obtain⟨u,hu,rfl⟩:=List.mem_map.1 hr
  have aE:=hc u hu;rw[bR,aL (by rw[h.len];exact aE)];exact h.row _ (List.getElem_mem _)
 ·obtain⟨u,hu,rfl⟩:=List.mem_map.1 hy
  have aE:=hc u hu;rw[bR,aL aE];exact h.win _ (List.getElem_mem _)
theorem Z0u{c:Crw}{ch:List Nat}{own:List Int}:∀ q∈(uE ch own).map Int.ofNat,cM q (yP c ch).us.length=true:=fun q hq=>by
 obtain⟨k,hk,rfl⟩:=List.mem_map.1 hq;have h1:=List.mem_range.1 (List.mem_filter.1 hk).1;have h2:(yP c ch).us.length=ch.length:=eB _;rw[h2];unfold cM inB;show(decide (0<=(k:Int))&&decide ((k:Int)<=(ch.length:Int)-1))=true;rw[decide_eq_true (by omega),decide_eq_true (by omega)];rfl
def Ll(c:Crw)(own:List Int)(x:Use)(l:List Wsh)(ch:List Nat):Bool:=!Te (yP c ch) (bS c) (xC (aW c) ch) ((uE ch own).map Int.ofNat) x l
structure ExpW (w0 W:World) (RB Dh OB XB LB A:Nat) (c:Crw) (own:List Int) (oo:Option Addr) (oc:Nat) (x:Use) (l:List Wsh) (lo:Option Addr) (lc:Nat):Prop where
 rb:aC W RB 102 [.pointer (some ⟨A,0,none⟩)]
 ob:aC W Dh 33 [.slice oo own.length oc]
 xb:aC W XB 39 [.int .i64 x.q,.int .i64 x.w,.int .i64 x.f,.int .i64 x.h]
 lb:aC W LB 56 [.slice lo l.length lc]
 rk:oO W (· = OB) A c (bS c) (aW c)
 bl:Below w0.heap.size w0 W
theorem ExpW.only{w0 W W':World}{RB Dh OB XB LB A:Nat}{c:Crw}{own:List Int}{oo:Option Addr}{oc:Nat}{x:Use}{l:List Wsh}{lo:Option Addr}{lc:Nat}(h:ExpW w0 W RB Dh OB XB LB A c own oo oc x l lo lc)(on:Only W W' (· = OB))(hd:RB≠OB/\Dh≠OB/\XB≠OB/\LB≠OB/\w0.heap.size<=OB):ExpW w0 W' RB Dh OB XB LB A c own oo oc x l lo lc :=
 ⟨h.rb.only on hd.1,h.ob.only on hd.2.1,h.xb.only on hd.2.2.1,h.lb.only on hd.2.2.2.1,h.rk.only on (fun g _ hg=>hg),on.later h.bl (fun g hg=>by have:=hd.2.2.2.2;omega)⟩
theorem Zxx(w0:World)(RB Dh OB XB LB A:Nat)(c:Crw)(own:List Int)(oo:Option Addr)(oc:Nat)(x:Use)(l:List Wsh)(lo:Option Addr)(lc:Nat)(hd:RB≠OB/\Dh≠OB/\XB≠OB/\LB≠OB/\w0.heap.size<=OB)(hv:pC c x=true)(dH:c.us.length<=999)(bD:aY aZ w0 oo own)(zN:own.length<=1000000)(hl:aY Pa w0 lo l)(fX:l.length<=1000000) :
  YldW OB (fun W=>ExpW w0 W RB Dh OB XB LB A c own oo oc x l lo lc) (fun ch=>∀ u∈ch,u<c.us.length) 101 #[.pointer (some ⟨RB,0,none⟩),.pointer (some ⟨Dh,0,none⟩),.pointer (some ⟨OB,0,none⟩),.pointer (some ⟨XB,0,none⟩),.pointer (some ⟨LB,0,none⟩)] (Ll c own x l):=by
 refine⟨enters_of Tryz.func101 (by kernel_rfl) rfl,fun W W' h on=>h.only on hd,fun w v co cc ch hI hO hC dW yx=>?_⟩;have aq:=Tf hv;have aJ:ReckOk c (aW c):=qP aq.1 (by omega);have LQ:=I (Z0s w (· = OB) A c (bS c) (aW c) ch co cc own oo oc hI.rk (fun g hg=>by have:=hO.lt;omega) aJ hC.flat (by omega) yx (bD.below hI.bl) zN);have cA:=I (fun W (hW:Below w.heap.size w W)=>Zt7 W OB co cc ch (hC.only (Only.of_below hW)) (by omega) (gR hO.lt hW.size))
 have Gv:Hid ((uE ch own).length<=999):=I (by
  unfold uE
  exact dQ (Ta _ _) dW)
 have wD:Hid (∀ W X mo cap,fG W X (yP c ch) (bS c) (xC (aW c) ch)->aY aZ W mo ((uE ch own).map Int.ofNat)->Below w0.heap.size w0 W->Calls Tryz.prog 104 #[.pointer (some ⟨X,0,none⟩),.slice mo (uE ch own).length cap,.agg #[.int .i64 x.q,.int .i64 x.w,.int .i64 x.f,.int .i64 x.h],.slice lo l.length lc] W fun e w'=>e = .returned (.bool (Te (yP c ch) (bS c) (xC (aW c) ch) ((uE ch own).map Int.ofNat) x l))/\Below W.heap.size W w'):=I (fun W X mo cap h1 h2 h3=>by
  have h:=ZC W X (yP c ch) (bS c) (xC (aW c) ch) ((uE ch own).map Int.ofNat) mo cap x l lo lc h1 (Zqr aJ yx dW) (by show(ch.map _).length<=999;rw[eB];exact dW) aq.2.1 aq.2.2.1 Wj ⟨aq.2.2.2.1,aq.2.2.2.2⟩ h2 (by rw[eB];have:=Gv.o;omega) Z0u (hl.below h3) fX;rw[eB] at h
  exact h)
 have N2:Hid (Ll c own x l ch=!Te (yP c ch) (bS c) (xC (aW c) ch) ((uE ch own).map Int.ofNat) x l):=I rfl;have HI:=I hI;have HO:=I hO;have HD:=I hd;have r0:=hI.rb.cell 0 _ rfl;have o0:=hI.ob.cell 0 _ rfl;clear hI hC aJ bD hl yx;generalize Ll c own x l ch=yv at *;generalize Te (yP c ch) (bS c) (xC (aW c) ch) ((uE ch own).map Int.ofNat) x l=bk at *;generalize N3:uE ch own=MF at *;clear N3;generalize yP c ch=PU at *;generalize xC (aW c) ch=PR at *;generalize own.length=N7 at *;generalize Xx:ch.length=nc at *
 go_enter Tryz.func101,Tryz.ntmps101
 go_wp2_with fail
 refine LQ.o.mono ?_;rintro e w2 ⟨⟨X,mo,cap,rfl,hX,hM⟩,b2⟩;have HX:=I hX;have HM:=I hM;have B2:=I b2;have Jj:=I (cA.o w2 b2);clear hX hM b2 LQ cA r0 o0
 go_wp2_with fail
 refine Jj.o.mono ?_;rintro e w3 ⟨⟨ko,kc,rfl,hk⟩,b3⟩;have B3:=B2.tr b3;have Un:=I (HX.o.only (Only.of_below b3) (fun g _ hg=>hg));have Lw:=I (HM.o.below b3);have Tx:=I hk;have O3:=I (HO.o.step B3.o);have q0:=O3.o.cell 0 _ rfl;have qf:=O3.o.warm 0;clear b3 hk Jj HX HM B2
 go_upto_region 3 with(fail)
 clear q0 qf;have on:=(Only.refl w3 (· = OB)).setCell (a:=⟨OB,0,none⟩) (.slice ko nc kc) rfl;have O4:=I (O3.o.set 0 (.slice ko nc kc));have Rg:Hid (Only w (w3.setCell ⟨OB,0,none⟩ (.slice ko nc kc)) (· = OB)):=I ((Only.of_below B3.o).trans on);have LT:Hid (oO (w3.setCell ⟨OB,0,none⟩ (.slice ko nc kc)) (· = OB) X PU (bS c) PR):=I (Un.o.only on (fun g _ hg=>hg));have Mx:=I (Lw.o.of_block (fun g e hl=>on.block g hl (fun e2=>by have h1:=(Lw.o.blk_lt e).1;have h2:=HO.o.lt;omega)) on.size);have yy:=I (Tx.o.only on);have yz:=I (HI.o.only Rg.o HD.o);clear on Un Lw Tx O3 B3;generalize w3.setCell ⟨OB,0,none⟩ (.slice ko nc kc)=w4 at *;obtain⟨x0,x1,x2,x3⟩:=yz.o.xb.c4;have l0:=yz.o.lb.cell 0 _ rfl;have bC:=I (wD.o w4 X mo cap LT.o.reck (Nz Mx.o rfl) yz.o.bl);clear wD LT Mx;generalize l.length=nl at *;generalize MF.length=nm at *;generalize x.q=xq at *;generalize x.w=xw at *;generalize x.f=xf at *;generalize x.h=xh at *
 go_wp2_with fail
 refine bC.o.mono ?_;rintro e w5 ⟨rfl,b5⟩;have wO:Hid (Only w w5 (· = OB)):=I (Rg.o.trans (Only.of_below b5));have O5:=I (O4.o.step b5);have N8:=I (yy.o.only (Only.of_below b5));clear b5 bC x0 x1 x2 x3 l0
 go_wp2_with fail
 go_ret
 exact⟨by rw[N2.o];rfl,wO.o,_,O5.o,fun r hr=>by
  obtain rfl:=bF hr
  exact⟨ko,kc,by rw[Xx],N8.o⟩⟩
def Bg(y:List Nat->Bool)(g:List Nat)(n:Nat):Option (List Nat):=(List.range n).findSome? (fun s=>nS y s g [])
def fh(c:Crw)(own:List Int)(x:Use)(l:List Wsh):List Nat×Nat :=
 if (pC c x&&Fp c own)=true then
  if 12<(pB c x.w).length then([],6) else
  match Bg (Ll c own x l) (pB c x.w) ((pB c x.w).length+1) with
  | some r=>(r,0)
  | none=>([],4)
 else([],1)
theorem Zt8(y:List Nat->Bool)(g:List Nat)(n:Nat)(h:Bg y g n=none):Bg y g (n+1)=nS y n g []:=by
 unfold Bg at *;rw[List.range_succ,List.findSome?_append,h];simp
theorem Zt9(y:List Nat->Bool)(g:List Nat)(n m:Nat)(r:List Nat)(h:Bg y g n=some r)(hm:n<=m):Bg y g m=some r:=by
 unfold Bg at *;obtain⟨d,rfl⟩:∃ d,m=n+d:=⟨m-n,by omega⟩;rw[List.range_add,List.findSome?_append,h];rfl
def Tg(w w':World)(r:List Nat×Nat)(e:Ending):Prop:=(∃ o cap,e = .returned (.tuple #[.slice o r.1.length cap,.int .i64 ((r.2:Nat):Int)])/\aY aZ w' o (r.1.map Int.ofNat))/\Below w.heap.size w w'
theorem Tg.nil{w w':World}{r:List Nat×Nat}{n:Nat}(h:r=([],n))(hb:Below w.heap.size w w'):Tg w w' r (.returned (.tuple #[.slice none 0 0,.int .i64 (n:Int)])):=by
 subst h;exact⟨⟨none,0,rfl,.inl rfl⟩,hb⟩
theorem fj{fn:Func}(hf:fn.results=#[.cell 8 33,.tmp 9])(tmps:Array Value)(w:World)(g:Nat)(v u:Value)(hp:tmps.getD 8 undef = .pointer (some ⟨g,0,none⟩))(hu:tmps.getD 9 undef=u)(h:w.cell? ⟨g,0,none⟩=some v) :
  (results fn tmps).run Tryz.prog w = .ok (.tuple #[v,u]) w:=by
 rw[results_cell_tmp hf,hp,hu];simp[asAddr,XY w g v h,Result.andThen]
theorem ZE(w:World)(c:Crw)(cs:List Value)(B:Nat)(own:List Int)(oo:Option Addr)(oc:Nat)(x:Use)(l:List Wsh)(lo:Option Addr)(lc:Nat)(ha:ArgC w c cs B)(bD:aY aZ w oo own)(zN:own.length<=1000000)(hl:aY Pa w lo l)(fX:l.length<=1000000) :
  Calls Tryz.prog 32 #[.agg cs.toArray,.slice oo own.length oc,.agg (cQ x).toArray,.slice lo l.length lc] w fun e w'=>Tg w w' (fh c own x l) e:=by
 have gO:=I (fun W (hW:Below w.heap.size w W)=>FM W c cs B x (ha.below hW));have iC:=ha.nu;have lE:=ha.ok.nq;have jI:=ha.ok.nm;have bJ:Hid (fh c own x l=if (pC c x&&Fp c own)=true then if 12<(pB c x.w).length then([],6) else match Bg (Ll c own x l) (pB c x.w) ((pB c x.w).length+1) with | some r=>(r,0) | none=>([],4) else([],1)):=I rfl;have Cq:=I (fun W (hW:Below w.heap.size w W)=>ZA W c cs own oo oc (ha.crw.below hW) (by omega) (bD.below hW) zN);have Da:=I (fun W A (h:fG W A c (bS c) (aW c)) (hp:pC c x=true)=>FL W A c (bS c) (aW c) x.w h (qP (Tf hp).1 (by omega)));have vG:=I (fun RB Dh OB XB LB A hd hp=>Zxx w RB Dh OB XB LB A c own oo oc x l lo lc hd hp iC bD zN hl fX);have LU:Hid (∀ u∈pB c x.w,u<c.us.length):=I (fun u hu=>List.mem_range.1 (List.mem_filter.1 hu).1)
 have uT:Hid ((pB c x.w).length<=999):=I (by
  unfold pB
  exact dQ (Ta _ _) iC)
 have oP:=I (Zt8 (Ll c own x l) (pB c x.w));have Gc:=I (Zt9 (Ll c own x l) (pB c x.w));have za:=I ha.crw;have Zp:Hid (Fp c own=!own.any (fun q=>!cM q c.us.length)):=I rfl;rw[<- Zp.o] at Cq;obtain⟨qo,qc,mo,mc,uo,uc,rfl,-,-,-⟩:=ha.crw;unfold ff at gO;clear ha bD hl Zp;generalize fh c own x l=PA at *;generalize xp:Fp c own=ob at *;generalize Kc:pC c x=pb at *;clear xp Kc;have mX:Hid (cQ x=[.int .i64 x.q,.int .i64 x.w,.int .i64 x.f,.int .i64 x.h]):=I rfl;rw[mX.o] at gO ⊢;clear mX;generalize c.qs.length=nq at *;generalize c.ms.length=nm at *;generalize dH:c.us.length=nu at *;clear dH;have HC:=aC.new w 26 [.slice qo nq qc,.slice mo nm mc,.slice uo nu uc];have nL:=bwA w (.cells ([.slice qo nq qc,.slice mo nm mc,.slice uo nu uc]:List Value).toArray 26);generalize rE:w.alloc (.cells ([.slice qo nq qc,.slice mo nm mc,.slice uo nu uc]:List Value).toArray 26)=w1 at *
 have nP:w1.heap.size=w.heap.size+1:=by rw[<- rE,eH]
 have HO:=aC.newAt w1 33 [.slice oo own.length oc] (w.heap.size+1) nP.symm;have kO:=bwA w1 (.cells ([.slice oo own.length oc]:List Value).toArray 33);replace HC:=aC.step HC kO;generalize yX:w1.alloc (.cells ([.slice oo own.length oc]:List Value).toArray 33)=w2 at *
 have pH:w2.heap.size=w.heap.size+1+1:=by rw[<- yX,eH,nP]
 have HX:=aC.newAt w2 39 [.int .i64 x.q,.int .i64 x.w,.int .i64 x.f,.int .i64 x.h] (w.heap.size+1+1) pH.symm;have fH:=bwA w2 (.cells ([.int .i64 x.q,.int .i64 x.w,.int .i64 x.f,.int .i64 x.h]:List Value).toArray 39);replace HC:=aC.step HC fH;replace HO:=aC.step HO fH;generalize kA:w2.alloc (.cells ([.int .i64 x.q,.int .i64 x.w,.int .i64 x.f,.int .i64 x.h]:List Value).toArray 39)=w3 at *
 have Vc:w3.heap.size=w.heap.size+1+1+1:=by rw[<- kA,eH,pH]
 have HL:=aC.newAt w3 56 [.slice lo l.length lc] (w.heap.size+1+1+1) Vc.symm;have lL:=bwA w3 (.cells ([.slice lo l.length lc]:List Value).toArray 56);replace HC:=aC.step HC lL;replace HO:=aC.step HO lL;replace HX:=aC.step HX lL;generalize Gp:w3.alloc (.cells ([.slice lo l.length lc]:List Value).toArray 56)=w4 at *
 have zb:w4.heap.size=w.heap.size+1+1+1+1:=by rw[<- Gp,eH,Vc]
 have HR:=aC.newAt w4 33 [.slice none 0 0] (w.heap.size+1+1+1+1) zb.symm;have aK:=bwA w4 (.cells ([.slice none 0 0]:List Value).toArray 33);replace HC:=aC.step HC aK;replace HO:=aC.step HO aK;replace HX:=aC.step HX aK;replace HL:=aC.step HL aK;generalize zc:w4.alloc (.cells ([.slice none 0 0]:List Value).toArray 33)=w5 at *
 have LW:w5.heap.size=w.heap.size+1+1+1+1+1:=by rw[<- zc,eH,zb]
 have C5:=I HC;have O5:=I HO;have X5:=I HX;have L5:=I HL;have R5:=I HR;have B5:=I (nL.trans ((kO.trans ((fH.trans ((lL.trans (aK.mono lL.size)).mono fH.size)).mono kO.size)).mono nL.size));have HZ:Hid (w5.heap.size=w.heap.size+1+1+1+1+1):=I LW;have ke:Hid (((((w.alloc (.cells #[.slice qo nq qc,.slice mo nm mc,.slice uo nu uc] 26)).alloc (.cells #[.slice oo own.length oc] 33)).alloc (.cells #[.int .i64 x.q,.int .i64 x.w,.int .i64 x.f,.int .i64 x.h] 39)).alloc (.cells #[.slice lo l.length lc] 56)).alloc (.cells #[.slice none 0 0] 33)=w5):=I (by rw[<- zc,<- Gp,<- kA,<- yX,<- rE]);clear HC HO HX HL HR nL kO fH lL aK nP pH Vc zb LW rE yX kA Gp zc;clear w1 w2 w3 w4
 go_enter Tryz.func32,Tryz.ntmps32
 go_upto_region 1 with(fail)
 rw[ke.o];clear ke;obtain⟨c0,c1,c2⟩:=C5.o.c3;obtain⟨x0,x1,x2,x3⟩:=X5.o.c4;have cA:=I (gO.o w5 B5.o);clear gO
 go_wp2_with fail
 refine cA.o.mono ?_;intro e w6 hq;obtain⟨b6,aN⟩:=hq;have B6:=B5.tr b6;have C6:=I (C5.o.step b6);have O6:=I (O5.o.step b6);have X6:=X5.st b6;have L6:=I (L5.o.step b6);have R6:=I (R5.o.step b6);have P0:Hid (w.heap.size+1+1+1+1<w6.heap.size):=I (by have:=HZ.o;have:=b6.size;omega);clear b6 c0 c1 c2 x0 x1 x2 x3 cA C5 O5 X5 L5 R5
 cases pb with
 | false =>
  rw[if_neg (by decide)] at aN;subst aN;have bK:Hid (PA=([],1)):=I (by rw[bJ.o];rfl);have bz:=bwA w6 (.cells #[.pointer none] 102);have R7:=I (R6.o.step bz);have B7:=B6.tr bz;clear bz bJ R6 B6
  go_upto_region 2 with(fail)
  generalize w6.alloc (.cells #[.pointer none] 102)=w7 at *;have q0:=R7.o.cell 0 _ rfl;have qf:=R7.o.warm 0;have on:=(Only.refl w7 (· = w.heap.size+1+1+1+1)).setCell (a:=⟨w.heap.size+1+1+1+1,0,none⟩) (.slice none 0 0) rfl;have hc:=(R7.o.set 0 (.slice none 0 0)).cell 0 _ rfl;have BZ:=I (Only.later B7.o on (fun g hg=>by omega));have pK:=I hc;clear on hc
  go_wp2_with fail
  refine bodyPost_ret (fj (by kernel_rfl) _ _ (w.heap.size+1+1+1+1) _ _ rfl rfl pK.o) rfl ?_;exact Tg.nil bK.o BZ.o
 | true =>
  rw[if_pos rfl] at aN;obtain⟨A,rfl,hR,hF⟩:=aN;have hQ6:=hF w (· = w.heap.size+1+1+1+1) za.o B5.o (fun g hg=>⟨by omega,by have:=HZ.o;omega⟩);have bz:=bwA w6 (.cells #[.pointer (some ⟨A,0,none⟩)] 102);have LX:=hnw w6 102 [.pointer (some ⟨A,0,none⟩)];have LY:=I (hR.below bz);have LZ:Hid (oO (w6.alloc (.cells #[.pointer (some ⟨A,0,none⟩)] 102)) (· = w.heap.size+1+1+1+1) A c (bS c) (aW c)):=I (hQ6.only (Only.of_below bz) (fun g _ hg=>hg));have C7:=I (C6.o.step bz);have O7:=I (O6.o.step bz);have X7:=X6.st bz;have L7:=I (L6.o.step bz);have R7:=I (R6.o.step bz);have B7:=B6.tr bz;clear bz hR hF hQ6 C6 O6 X6 L6 R6 B6
  go_upto_region 2 with(fail)
  generalize w6.alloc (.cells #[.pointer (some ⟨A,0,none⟩)] 102)=w7 at *;generalize w6.heap.size=RB at *;obtain⟨c0,c1,c2⟩:=C7.o.c3;have o0:=O7.o.cell 0 _ rfl;have MA:=I (Cq.o w7 B7.o);clear Cq;generalize xF:own.length=N7 at *
  go_wp2_with fail
  refine MA.o.mono ?_;rintro e w8 ⟨rfl,b8⟩;have B8:=B7.tr b8;have O8:=I (O7.o.step b8);have X8:=X7.st b8;have L8:=I (L7.o.step b8);have R8:=I (R7.o.step b8);have ze:=I (LX.o.step b8);have zC:=I (LY.o.below b8);have MC:=I (LZ.o.only (Only.of_below b8) (fun g _ hg=>hg):oO w8 (· = w.heap.size+1+1+1+1) A c (bS c) (aW c));clear b8 c0 c1 c2 o0 MA C7 O7 X7 L7 R7 LX LY LZ B7
  cases ob with
  | false =>
   have bK:Hid (PA=([],1)):=I (by rw[bJ.o];rfl);clear bJ;have q0:=R8.o.cell 0 _ rfl;have qf:=R8.o.warm 0;have on:=(Only.refl w8 (· = w.heap.size+1+1+1+1)).setCell (a:=⟨w.heap.size+1+1+1+1,0,none⟩) (.slice none 0 0) rfl;have hc:=(R8.o.set 0 (.slice none 0 0)).cell 0 _ rfl;have BZ:=I (Only.later B8.o on (fun g hg=>by omega));have pK:=I hc;clear on hc
   go_wp2_with fail
   refine bodyPost_ret (fj (by kernel_rfl) _ _ (w.heap.size+1+1+1+1) _ _ rfl rfl pK.o) rfl ?_;exact Tg.nil bK.o BZ.o
  | true =>
   have r0:=ze.o.cell 0 _ rfl;have x1:=X8.o.cell 1 _ rfl;have zg:=I (Da.o w8 A zC.o (by first | rfl | trivial));have zh:=I (vG.o RB (w.heap.size+1) (w.heap.size+1+1+1+1) (w.heap.size+1+1) (w.heap.size+1+1+1) A (by have:=P0.o;omega) (by first | rfl | trivial));have vH:Hid (PA=if 12<(pB c x.w).length then([],6) else match Bg (Ll c own x l) (pB c x.w) ((pB c x.w).length+1) with | some r=>(r,0) | none=>([],4)):=I (by rw[bJ.o];rfl);clear bJ Da vG;obtain⟨G,hG⟩:=exq (pB c x.w);rw[hG] at zg vH LU uT oP Gc;clear hG;obtain⟨y,hy⟩:=exq (Ll c own x l);rw[hy] at vH oP Gc zh;clear hy
   go_wp2_with fail
   refine zg.o.mono ?_;rintro e w9 ⟨⟨go,gc,rfl,hg⟩,b9⟩;have B9:=B8.tr b9;have R9:=I (R8.o.step b9);have Dg:=I (ChR.of_own (OB:=w.heap.size+1+1+1+1) hg rfl (R8.o.lt));have MD:Hid (ExpW w w9 RB (w.heap.size+1) (w.heap.size+1+1+1+1) (w.heap.size+1+1) (w.heap.size+1+1+1) A c own oo oc x l lo lc):=I ⟨ze.o.step b9,by rw[xF];exact O8.o.step b9,X8.o.step b9,L8.o.step b9,MC.o.only (Only.of_below b9) (fun g _ hg=>hg),B9.o⟩;clear hg b9 zg r0 x1 O8 X8 L8 R8 ze zC MC B8;have dT:=uT.o;obtain⟨gl,Cr⟩:=exq (G.length);have tW:=I Cr;rw[Cr] at vH dT;rw[Cr];clear Cr;by_cases aE:12<gl
   ·have g1:(12:Int)<(gl:Int):=by omega
    have bK:Hid (PA=([],6)):=I (by rw[vH.o,if_pos aE]);clear vH;have q0:=R9.o.cell 0 _ rfl;have qf:=R9.o.warm 0;have on:=(Only.refl w9 (· = w.heap.size+1+1+1+1)).setCell (a:=⟨w.heap.size+1+1+1+1,0,none⟩) (.slice none 0 0) rfl;have hc:=(R9.o.set 0 (.slice none 0 0)).cell 0 _ rfl;have BZ:=I (Only.later B9.o on (fun g hg=>by omega));have pK:=I hc;clear on hc
    go_wp2_with fail
    refine bodyPost_ret (fj (by kernel_rfl) _ _ (w.heap.size+1+1+1+1) _ _ rfl rfl pK.o) rfl ?_;exact Tg.nil bK.o BZ.o
   ·have g1:¬ (12:Int)<(gl:Int):=by omega
    have bK:Hid (PA=match Bg y G (gl+1) with | some r=>(r,0) | none=>([],4)):=I (by rw[vH.o,if_neg aE]);clear vH;have eL:IntKind.i64.wrap ((gl:Int)+1)=(gl:Int)+1:=fU _ (by omega)
    go_wp2_with fail
    have kf:Hid (Bg y G 0=none):=I rfl
    go_loopw [39] (fun sv wr=>∃ (s:Nat) (v:Value),sv = .int .i64 s/\s<=gl+1/\Hid (Bg y G s=none)/\Hid (ExpW w wr RB (w.heap.size+1) (w.heap.size+1+1+1+1) (w.heap.size+1+1) (w.heap.size+1+1+1) A c own oo oc x l lo lc)/\Hid (ChR wr (w.heap.size+1+1+1+1) go gc G)/\Hid (aC wr (w.heap.size+1+1+1+1) 33 [v])) (fun s _=>((gl:Int)+1-intOf s).toNat)
    case atStart=>exact⟨0,_,rfl,by omega,kf,MD,Dg,R9⟩
    case round =>
     clear kf MD Dg R9;obtain⟨s,v,rfl,hs,ar,HI,Dg,HO⟩:=hrel;have e2:=w1i s (by omega);by_cases Cx:s<gl+1
     ·have ss:(s:Int)<(gl:Int)+1:=by omega
      have Kg:=I (Zqq (w.heap.size+1+1+1+1) s (fun W=>ExpW w W RB (w.heap.size+1) (w.heap.size+1+1+1+1) (w.heap.size+1+1) (w.heap.size+1+1+1) A c own oo oc x l lo lc) (fun ch=>∀ u∈ch,u<nu) _ _ y zh.o G (fun ch z h1 h2 u hu=>by
       rcases kI.1 hu with h | h
       ·exact h1 u h
       ·rw[List.mem_singleton] at h;subst h;exact LU.o u h2) (fun u hu=>(by simp at hu)) go gc (by rw[tW.o];exact dT) wr v HI.o HO.o Dg.o)
      rw[tW.o] at Kg;have dY:=I (oP.o s ar.o);obtain⟨RS,hRS⟩:=exq (nS y s G []);rw[hRS] at Kg dY;clear hRS
      go_wp2_with fail
      refine Kg.o.mono ?_;rintro e w2 ⟨rfl,on,hq⟩;have ME:=I (zh.o.only wr w2 HI.o on);have zi:=I (Dg.o.only on);have HQ:=I hq;clear on hq Kg HI Dg HO
      cases RS with
      | some r =>
       have vF:Hid (PA=(r,0)):=I (by rw[bK.o,Gc.o (s+1) (gl+1) r dY.o (by omega)]);obtain⟨v2,h1,h2⟩:=HQ.o;obtain⟨ko,kc,rfl,hk⟩:=h2 r rfl;have q0:=h1.cell 0 _ rfl;have qf:=h1.warm 0;have on:=(Only.refl w2 (· = w.heap.size+1+1+1+1)).setCell (a:=⟨w.heap.size+1+1+1+1,0,none⟩) (.slice ko r.length kc) rfl;have pK:=I ((h1.set 0 (.slice ko r.length kc)).cell 0 _ rfl);have HK:=I (hk.only on);have BZ:=I (Only.later ME.o.bl on (fun g hg=>by omega));clear on h1 h2 hk HQ
       go_wp2_with fail
       refine bodyPost_ret (fj (by kernel_rfl) _ _ (w.heap.size+1+1+1+1) _ _ rfl rfl pK.o) rfl ?_;rw[vF.o];exact⟨⟨ko,kc,rfl,HK.o.flat⟩,BZ.o⟩
      | none =>
       obtain⟨v2,h1,-⟩:=HQ.o;have fZ:=I h1;clear h1 HQ
       go_wp2_with fail
       go_roundw
       case rel=>exact⟨s+1,v2,by go_num,by omega,dY,ME,zi,fZ⟩
       case measure=>simp only[intOf];omega
     ·have ss:¬ (s:Int)<(gl:Int)+1:=by omega
      obtain rfl:gl+1=s:=by omega
      have vF:Hid (PA=([],4)):=I (by rw[bK.o,ar.o]);have lK:=I HI.o.bl;have q0:=HO.o.cell 0 _ rfl;have qf:=HO.o.warm 0;have on:=(Only.refl wr (· = w.heap.size+1+1+1+1)).setCell (a:=⟨w.heap.size+1+1+1+1,0,none⟩) (.slice none 0 0) rfl;have hc:=(HO.o.set 0 (.slice none 0 0)).cell 0 _ rfl;have BZ:=I (Only.later lK.o on (fun g hg=>by omega));have pK:=I hc;clear on hc
      go_wp2_with fail
      refine bodyPost_ret (fj (by kernel_rfl) _ _ (w.heap.size+1+1+1+1) _ _ rfl rfl pK.o) rfl ?_;exact Tg.nil vF.o BZ.o
end
section
open Go.RowKit Go.Sort Go.Maps
theorem ZF(w:World)(a b:List Int)(ao bo:Option Addr)(ac bc:Nat)(ha:aY aZ w ao a)(hb:aY aZ w bo b)(hl:a.length<=1000000) :
  Calls Tryz.prog 25 #[.slice ao a.length ac,.slice bo b.length bc] w fun e w'=>e = .returned (.bool (decide (a=b)))/\Below w.heap.size w w':=by
 have HA:=I (fun W (hW:Below w.heap.size w W)=>ha.below hW);have HB:=I (fun W (hW:Below w.heap.size w W)=>hb.below hW);have qV:Hid (a.length≠b.length->decide (a=b)=false):=I (fun h=>decide_eq_false (fun e=>h (by rw[e])))
 have Va:Hid (∀ (i:Nat) (x y:Int),a[i]?=some x->b[i]?=some y->x≠y->decide (a=b)=false):=I (fun i x y h1 h2 h=>decide_eq_false (fun e=>by
  rw[e,h2] at h1
  exact h (bF h1).symm))
 have sP:Hid (a.length=b.length->(∀ i,i<a.length->a[i]?=b[i]?)->decide (a=b)=true):=I (fun hn h=>decide_eq_true (List.ext_getElem? (fun i=>by
  by_cases hi:i<a.length
  ·exact h i hi
  ·rw[List.getElem?_eq_none (by omega),List.getElem?_eq_none (by omega)])))
 have zj:Hid (∀ (i:Nat),i<a.length->∃ x,a[i]?=some x):=I (fun i h=>⟨_,aL h⟩);have xW:Hid (∀ (i:Nat),i<b.length->∃ x,b[i]?=some x):=I (fun i h=>⟨_,aL h⟩);clear ha hb;generalize decide (a=b)=DE at *;generalize Ur:a.length=al at *;generalize kB:b.length=bl at *;clear Ur kB
 go_enter Tryz.func25,Tryz.ntmps25
 by_cases hn:al=bl
 ·subst hn
  have Rh:=I (sP.o rfl);clear sP qV
  go_wp2_with fail
  go_loopw [5] (fun iv wr=>∃ (i:Nat),iv = .int .i64 i/\i<=al/\Hid (∀ j,j<i->a[j]?=b[j]?)/\Hid (Below w.heap.size w wr)) (fun i _=>(al-intOf i).toNat)
  case atStart=>exact⟨0,rfl,by omega,I (fun j hj=>absurd hj (jU j)),I (aG _ _)⟩
  case round =>
   obtain⟨i,rfl,hi,HJ,BB⟩:=hrel;have e2:=w1i i (by omega);by_cases aT:i<al
   ·have ii:(i:Int)<al:=by omega
    obtain⟨x,hx⟩:=zj.o i aT;obtain⟨y,hy⟩:=xW.o i aT;obtain⟨ga,oa,bI,zk,au⟩:=(HA.o wr BB.o).at jN i x hx;obtain⟨gb,ob,dE,xJ,rF⟩:=(HB.o wr BB.o).at jN i y hy;have a0:=au 0 _ rfl;have b0:=rF 0 _ rfl;rw[Nat.mul_one,Nat.add_zero] at a0 b0;have kg:=I hx;have wS:=I hy;have mT:=I bI;have qX:=I dE;subst bI;subst dE;clear au rF zk xJ hx hy;by_cases Ri:x=y
    ·subst Ri
     go_upto_region 6 with(fail)
     go_quiet (fail)
     have B3:=I (below_drewN BB.o nq);clear a0 b0 BB;generalize wr.drewN nq=wd at *
     go_wp2_with fail
     go_roundw
     case rel=>exact⟨i+1,by go_num,by omega,I (fun j hj=>by
      rcases gQ j i with h | h
      ·exact HJ.o j h
      ·obtain rfl:j=i:=by omega
       rw[kg.o,wS.o]),B3⟩
     case measure=>simp only[intOf];omega
    ·have Qe:(x==y)=false:=by simpa using Ri
     have hxc:(x != y)=true:=by simp[Ri]
     have HD:=I (Va.o i x y kg.o wS.o Ri)
     go_upto_region 6 with(fail)
     go_quiet (fail)
     have B3:=I (below_drewN BB.o nq);clear a0 b0 BB;generalize wr.drewN nq=wd at *
     go_wp2_with fail
     go_ret;exact⟨by rw[HD.o];rfl,B3.o⟩
   ·have ii:¬ (i:Int)<al:=by omega
    obtain rfl:al=i:=by omega
    have HD:=I (Rh.o HJ.o)
    go_wp2_with fail
    go_ret;exact⟨by rw[HD.o];rfl,BB.o⟩
 ·have cT:¬ (al:Int)=(bl:Int):=by omega
  have zm:((al:Int)==(bl:Int))=false:=by simpa using cT
  have zn:((al:Int) != (bl:Int))=true:=by simp[cT]
  have HD:=I (qV.o hn)
  go_wp2_with fail
  go_ret;exact⟨by rw[HD.o];rfl,aG _ _⟩
end
section
open Go.RowKit Go.Sort Go.Maps
theorem ZG(w:World)(a b:List (List Int))(ao bo:Option Addr)(ac bc:Nat)(ha:sF w a ao)(hb:sF w b bo)(hl:a.length<=1000000)(hr:∀ r∈a,r.length<=1000000) :
  Calls Tryz.prog 27 #[.slice ao a.length ac,.slice bo b.length bc] w fun e w'=>e = .returned (.bool (decide (a=b)))/\Below w.heap.size w w':=by
 have HA:=I (fun W (hW:Below w.heap.size w W)=>ha.below hW);have HB:=I (fun W (hW:Below w.heap.size w W)=>hb.below hW);have eX:=I hr;have qV:Hid (a.length≠b.length->decide (a=b)=false):=I (fun h=>decide_eq_false (fun e=>h (by rw[e])))
 have Va:Hid (∀ (i:Nat) (x y:List Int),a[i]?=some x->b[i]?=some y->x≠y->decide (a=b)=false):=I (fun i x y h1 h2 h=>decide_eq_false (fun e=>by
  rw[e,h2] at h1
  exact h (bF h1).symm))
 have sP:Hid (a.length=b.length->(∀ i,i<a.length->a[i]?=b[i]?)->decide (a=b)=true):=I (fun hn h=>decide_eq_true (List.ext_getElem? (fun i=>by
  by_cases hi:i<a.length
  ·exact h i hi
  ·rw[List.getElem?_eq_none (by omega),List.getElem?_eq_none (by omega)])))
 have zj:Hid (∀ (i:Nat),i<a.length->∃ x,a[i]?=some x):=I (fun i h=>⟨_,aL h⟩);have xW:Hid (∀ (i:Nat),i<b.length->∃ x,b[i]?=some x):=I (fun i h=>⟨_,aL h⟩);clear ha hb hr;generalize decide (a=b)=DE at *;generalize Ur:a.length=al at *;generalize kB:b.length=bl at *;clear Ur kB
 go_enter Tryz.func27,Tryz.ntmps27
 by_cases hn:al=bl
 ·subst hn
  have Rh:=I (sP.o rfl);clear sP qV
  go_wp2_with fail
  go_loopw [5] (fun iv wr=>∃ (i:Nat),iv = .int .i64 i/\i<=al/\Hid (∀ j,j<i->a[j]?=b[j]?)/\Hid (Below w.heap.size w wr)) (fun i _=>(al-intOf i).toNat)
  case atStart=>exact⟨0,rfl,by omega,I (fun j hj=>absurd hj (jU j)),I (aG _ _)⟩
  case round =>
   obtain⟨i,rfl,hi,HJ,BB⟩:=hrel;have e2:=w1i i (by omega);by_cases aT:i<al
   ·have ii:(i:Int)<al:=by omega
    obtain⟨x,hx⟩:=zj.o i aT;obtain⟨y,hy⟩:=xW.o i aT;obtain⟨ga,oa,xo,xc,bI,zk,au,Uc⟩:=(HA.o wr BB.o).at i x hx;obtain⟨gb,ob,yo,yc,dE,xJ,rF,MG⟩:=(HB.o wr BB.o).at i y hy;have it:=I (fun W (hW:Below wr.heap.size wr W)=>ZF W x y xo yo xc yc (Uc.below hW) (MG.below hW) (eX.o x (bU hx)));have kg:=I hx;have wS:=I hy;have mT:=I bI;have qX:=I dE;subst bI;subst dE
    have r1:=fun(d:Nat) (os:Array Obj)=>Calls.regrown_of (d:=d) (os:=os) (it.o (grow (redrawn wr d) os) (below_regrown wr d os))
    have a0:=cell_regrown au;have b0:=cell_regrown rF;have dY:=Va.o i x y hx hy;obtain⟨q,hq⟩:∃ q,decide (x=y)=q:=⟨_,rfl⟩;rw[hq] at r1;have HQ:=I hq;have dY:=I dY;generalize x.length=xl at *;generalize y.length=yl at *;clear au rF zk xJ hx hy Uc MG it hq
    go_upto_region 6 with(fail)
    refine wp_region_quiet_below (by kernel_rfl) (by kernel_rfl) ?_
    repeat (go_big_quiet_step (with_reducible (exact r1 _ _)))
    refine wpQuiet_nil ?_;intro _ bM;obtain⟨⟨dq,osq⟩,dF⟩:=bM;subst dF;have B3:=I (BB.o.trans ((below_regrown wr dq osq).mono BB.o.size));clear r1 a0 b0 BB;generalize grow (redrawn wr dq) osq=wd at *
    cases q with
    | true =>
     have Ri:x=y:=of_decide_eq_true HQ.o;have P1:Hid (a[i]?=b[i]?):=I (by rw[kg.o,wS.o,Ri]);clear Ri
     go_wp2_with fail
     go_roundw
     case rel=>exact⟨i+1,by go_num,by omega,I (fun j hj=>by
      rcases gQ j i with h | h
      ·exact HJ.o j h
      ·obtain rfl:j=i:=by omega
       exact P1.o),B3⟩
     case measure=>simp only[intOf];omega
    | false =>
     have HD:=I (dY.o (of_decide_eq_false HQ.o))
     go_wp2_with fail
     go_ret;exact⟨by rw[HD.o];rfl,B3.o⟩
   ·have ii:¬ (i:Int)<al:=by omega
    obtain rfl:al=i:=by omega
    have HD:=I (Rh.o HJ.o)
    go_wp2_with fail
    go_ret;exact⟨by rw[HD.o];rfl,BB.o⟩
 ·have cT:¬ (al:Int)=(bl:Int):=by omega
  have zm:((al:Int)==(bl:Int))=false:=by simpa using cT
  have zn:((al:Int) != (bl:Int))=true:=by simp[cT]
  have HD:=I (qV.o hn)
  go_wp2_with fail
  go_ret;exact⟨by rw[HD.o];rfl,aG _ _⟩
end
section
open Go.RowKit Go.Sort Go.Maps
theorem qA(q f:Int)(w:World) :
  Calls Tryz.prog 69 #[.int .i64 q,.int .i64 f] w fun e w'=>e = .returned (.agg #[.int .i64 q,.int .i64 0,.int .i64 f,.int .i64 (-1)])/\Below w.heap.size w w':=by
 have X1:=hnw w 39 [.int .i64 0,.int .i64 0,.int .i64 0,.int .i64 0];have B1:=I (bwA w (.cells #[.int .i64 0,.int .i64 0,.int .i64 0,.int .i64 0] 39))
 go_enter Tryz.func69,Tryz.ntmps69
 go_upto_region 1 with(fail)
 generalize w.alloc (.cells #[.int .i64 0,.int .i64 0,.int .i64 0,.int .i64 0] 39)=w1 at *
 go_wp2_with (refine sG rfl 39 (.tmp 4) (.tmp 7) rfl w.heap.size #[.int .i64 q,.int .i64 0,.int .i64 f,.int .i64 (-1)] (by rfl) (by rfl) 39 _ X1.o (pq _ _ _ _) rfl (by simp[Value.oneCell']) ?_;intro w9 s9 u9;have S9:=I s9;have U9:=I u9;clear s9 u9)
 exact bodyPost_ret (results_cell_row (p:=4) (by kernel_rfl) _ _ w.heap.size 39 #[.int .i64 q,.int .i64 0,.int .i64 f,.int .i64 (-1)] (0,0) _ rfl S9.o Tryz.underlying39 rfl (pq _ _ _ _)) rfl ⟨rfl,U9.o.below B1.o (aO _)⟩
def Fq(a b r:Int):Mem:=⟨[⟨[120,46,97],a⟩,⟨[120,46,98],b⟩],[1],r⟩
theorem Zua(a b r:Int)(w:World) :
  Calls Tryz.prog 133 #[.int .i64 a,.int .i64 b,.int .i64 r] w fun e w'=>(∃ B T,e = .returned (.agg #[.slice (some ⟨B,0,none⟩) 2 2,.slice (some ⟨T,0,none⟩) 1 1,.int .i64 r])/\aC w' B 164 [.string ⟨#[120,46,97]⟩,.int .i64 a,.string ⟨#[120,46,98]⟩,.int .i64 b]/\aC w' T 3 [.int .i64 1])/\Below w.heap.size w w':=by
 have X1:=aC.new w 44 [.slice none 0 0,.slice none 0 0,.int .i64 0];have kO:=bwA w (.cells ([.slice none 0 0,.slice none 0 0,.int .i64 0]:List Value).toArray 44);generalize rE:w.alloc (.cells ([.slice none 0 0,.slice none 0 0,.int .i64 0]:List Value).toArray 44)=w1 at *
 have nP:w1.heap.size=w.heap.size+1:=by rw[<- rE,eH]
 obtain⟨D3,T3,b3⟩:=Ht w1 164 3 [.string ⟨#[120,46,97]⟩,.int .i64 a,.string ⟨#[120,46,98]⟩,.int .i64 b] [.int .i64 1];have X3:Hid (aC ((w1.alloc (.cells #[.string ⟨#[120,46,97]⟩,.int .i64 a,.string ⟨#[120,46,98]⟩,.int .i64 b] 164)).alloc (.cells #[.int .i64 1] 3)) w.heap.size 44 [.slice none 0 0,.slice none 0 0,.int .i64 0]):=I (X1.step b3);have D3:Hid (aC ((w1.alloc (.cells #[.string ⟨#[120,46,97]⟩,.int .i64 a,.string ⟨#[120,46,98]⟩,.int .i64 b] 164)).alloc (.cells #[.int .i64 1] 3)) w1.heap.size 164 [.string ⟨#[120,46,97]⟩,.int .i64 a,.string ⟨#[120,46,98]⟩,.int .i64 b]):=I D3;have T3:Hid (aC ((w1.alloc (.cells #[.string ⟨#[120,46,97]⟩,.int .i64 a,.string ⟨#[120,46,98]⟩,.int .i64 b] 164)).alloc (.cells #[.int .i64 1] 3)) (w1.heap.size+1) 3 [.int .i64 1]):=I T3;have B3:Hid (Below w.heap.size w ((w1.alloc (.cells #[.string ⟨#[120,46,97]⟩,.int .i64 a,.string ⟨#[120,46,98]⟩,.int .i64 b] 164)).alloc (.cells #[.int .i64 1] 3))):=I (kO.trans (b3.mono kO.size));have wT:=I rE;have qV:Hid (w1.heap.size≠w.heap.size/\w1.heap.size+1≠w.heap.size):=I (by omega);clear X1 b3 kO rE nP
 go_enter Tryz.func133,Tryz.ntmps133
 go_upto_region 1 with(fail)
 rw[show w.alloc (.cells #[.slice none 0 0,.slice none 0 0,.int .i64 0] 44)=w1 from wT.o]
 go_wp2_with (refine sG rfl 44 (.tmp 6) (.tmp 14) rfl w.heap.size #[.slice (some ⟨w1.heap.size,0,none⟩) 2 2,.slice (some ⟨w1.heap.size+1,0,none⟩) 1 1,.int .i64 r] (by rfl) (by rfl) 44 _ X3.o (ev _ _ _) rfl (by simp[Value.oneCell']) ?_;intro w9 s9 u9;have S9:=I s9;have U9:=I u9;clear s9 u9)
 exact bodyPost_ret (results_cell_row (p:=6) (by kernel_rfl) _ _ w.heap.size 44 #[.slice (some ⟨w1.heap.size,0,none⟩) 2 2,.slice (some ⟨w1.heap.size+1,0,none⟩) 1 1,.int .i64 r] (0,0) _ rfl S9.o Tryz.underlying44 rfl (ev _ _ _)) rfl ⟨⟨w1.heap.size,w1.heap.size+1,rfl,D3.o.upd U9.o qV.o.1,T3.o.upd U9.o qV.o.2⟩,U9.o.below B3.o (aO _)⟩
end
section
open Go.RowKit Go.Sort Go.Maps
def ZH:Prd:=.mk 0 [] [120,46,97] (-18) []
def FP:Prd:=.mk 1 [] [] 0 [.mk 0 [120,46,98] [] 1 [],.mk 0 [] [120,46,98] (-1) []]
def exC(us:List Use):Crw:=⟨[ZH,FP],[Fq 20 1 (-1),Fq 30 2 0,Fq 17 1 (-1)],us⟩
def Bh(W:World)(v:Value)(a b r:Int):Prop:=∃ B T,v = .agg #[.slice (some ⟨B,0,none⟩) 2 2,.slice (some ⟨T,0,none⟩) 1 1,.int .i64 r]/\aC W B 164 [.string ⟨#[120,46,97]⟩,.int .i64 a,.string ⟨#[120,46,98]⟩,.int .i64 b]/\aC W T 3 [.int .i64 1]
theorem Bh.below{W W':World}{v:Value}{a b r:Int}(h:Bh W v a b r)(hb:Below W.heap.size W W'):Bh W' v a b r:=by
 obtain⟨B,T,h1,h2,h3⟩:=h;exact⟨B,T,h1,h2.step hb,h3.step hb⟩
def Fr(W:World)(KB:Nat)(v:Value):Prop:=∃ G,v = .slice (some ⟨G,0,none⟩) 2 2/\aC W G 54 [.int .i64 0,.string ⟨#[]⟩,.string ⟨#[120,46,97]⟩,.int .i64 (-18),.slice none 0 0,.int .i64 1,.string ⟨#[]⟩,.string ⟨#[]⟩,.int .i64 0,.slice (some ⟨KB,0,none⟩) 2 2]
theorem Fr.below{W W':World}{KB:Nat}{v:Value}(h:Fr W KB v)(hb:Below W.heap.size W W'):Fr W' KB v:=by
 obtain⟨G,h1,h2⟩:=h;exact⟨G,h1,h2.step hb⟩
def Fs(W:World)(v:Value):Prop:=∃ G,v = .slice (some ⟨G,0,none⟩) 3 3/\∃ wQ Di Dj Dk Dl Dm,aC W G 44 [.slice (some ⟨wQ,0,none⟩) 2 2,.slice (some ⟨Di,0,none⟩) 1 1,.int .i64 (-1),.slice (some ⟨Dj,0,none⟩) 2 2,.slice (some ⟨Dk,0,none⟩) 1 1,.int .i64 0,.slice (some ⟨Dl,0,none⟩) 2 2,.slice (some ⟨Dm,0,none⟩) 1 1,.int .i64 (-1)]/\aC W wQ 164 [.string ⟨#[120,46,97]⟩,.int .i64 20,.string ⟨#[120,46,98]⟩,.int .i64 1]/\aC W Di 3 [.int .i64 1]/\aC W Dj 164 [.string ⟨#[120,46,97]⟩,.int .i64 30,.string ⟨#[120,46,98]⟩,.int .i64 2]/\aC W Dk 3 [.int .i64 1]/\aC W Dl 164 [.string ⟨#[120,46,97]⟩,.int .i64 17,.string ⟨#[120,46,98]⟩,.int .i64 1]/\aC W Dm 3 [.int .i64 1]
theorem Fs.below{W W':World}{v:Value}(h:Fs W v)(hb:Below W.heap.size W W'):Fs W' v:=by
 obtain⟨G,h1,wQ,Di,Dj,Dk,Dl,Dm,h2,h3,h4,h5,h6,h7,h8⟩:=h;exact⟨G,h1,wQ,Di,Dj,Dk,Dl,Dm,h2.step hb,h3.step hb,h4.step hb,h5.step hb,h6.step hb,h7.step hb,h8.step hb⟩
theorem Z5j{W:World}{B:Nat}{a b:Int}(h:aC W B 164 [.string ⟨#[120,46,97]⟩,.int .i64 a,.string ⟨#[120,46,98]⟩,.int .i64 b]):tJ W (fun _=>True) [⟨[120,46,97],a⟩,⟨[120,46,98],b⟩] (some ⟨B,0,none⟩):=.inr ⟨B,0,rfl,trivial,h.lt,h.readsR⟩
theorem FQ{W:World}{B T:Nat}{a b r:Int}(h:aC W B 164 [.string ⟨#[120,46,97]⟩,.int .i64 a,.string ⟨#[120,46,98]⟩,.int .i64 b])(h2:aC W T 3 [.int .i64 1]):Bc W (Fq a b r) [.slice (some ⟨B,0,none⟩) 2 2,.slice (some ⟨T,0,none⟩) 1 1,.int .i64 r] :=
 ⟨some ⟨B,0,none⟩,2,some ⟨T,0,none⟩,1,rfl,Z5j h,.inr ⟨T,0,rfl,h2.lt,h2.readsR⟩⟩
theorem Fs.mems{W:World}{v:Value}(h:Fs W v):∃ G,v = .slice (some ⟨G,0,none⟩) 3 3/\uA W [Fq 20 1 (-1),Fq 30 2 0,Fq 17 1 (-1)] (some ⟨G,0,none⟩):=by
 obtain⟨G,h1,wQ,Di,Dj,Dk,Dl,Dm,h2,h3,h4,h5,h6,h7,h8⟩:=h;refine⟨G,h1,.inr ⟨G,0,rfl,h2.lt,fun i m hm=>?_⟩⟩
 match i,hm with
 | 0,hm=>obtain rfl:=bF hm;exact⟨_,FQ h3 h4,fun j u hj=>by have:=(fD.1 hj).1;exact h2.cell (0+0*3+j) u (by match j,hj with | 0,hj=>exact hj | 1,hj=>exact hj | 2,hj=>exact hj)⟩
 | 1,hm=>obtain rfl:=bF hm;exact⟨_,FQ h5 h6,fun j u hj=>h2.cell (0+1*3+j) u (by match j,hj with | 0,hj=>exact hj | 1,hj=>exact hj | 2,hj=>exact hj)⟩
 | 2,hm=>obtain rfl:=bF hm;exact⟨_,FQ h7 h8,fun j u hj=>h2.cell (0+2*3+j) u (by match j,hj with | 0,hj=>exact hj | 1,hj=>exact hj | 2,hj=>exact hj)⟩
theorem Fr.prds{W:World}{KB:Nat}{v:Value}(h:Fr W KB v)(hk:aC W KB 54 [.int .i64 0,.string ⟨#[120,46,98]⟩,.string ⟨#[]⟩,.int .i64 1,.slice none 0 0,.int .i64 0,.string ⟨#[]⟩,.string ⟨#[120,46,98]⟩,.int .i64 (-1),.slice none 0 0]):∃ G,v = .slice (some ⟨G,0,none⟩) 2 2/\tK W (fun _=>True) [ZH,FP] (some ⟨G,0,none⟩):=by
 obtain⟨G,h1,h2⟩:=h;refine⟨G,h1,.inr ⟨G,0,rfl,trivial,h2.lt,SK (v1:=[.int .i64 0,.string ⟨#[]⟩,.string ⟨#[120,46,97]⟩,.int .i64 (-18),.slice none 0 0]) (v2:=[.int .i64 1,.string ⟨#[]⟩,.string ⟨#[]⟩,.int .i64 0,.slice (some ⟨KB,0,none⟩) 2 2]) rfl h2 ?_ ?_⟩⟩
 ·exact EK W _ [] [120,46,97] (-18)
 ·unfold FP cK
  exact⟨some ⟨KB,0,none⟩,2,rfl,.inr ⟨KB,0,rfl,trivial,hk.lt,SK (v1:=[.int .i64 0,.string ⟨#[120,46,98]⟩,.string ⟨#[]⟩,.int .i64 1,.slice none 0 0]) (v2:=[.int .i64 0,.string ⟨#[]⟩,.string ⟨#[120,46,98]⟩,.int .i64 (-1),.slice none 0 0]) rfl hk (EK W _ [120,46,98] [] 1) (EK W _ [] [120,46,98] (-1))⟩⟩
theorem aC.neT{w:World}{b b' t t':Nat}{vs vs':List Value}(h:aC w b t vs)(h':aC w b' t' vs')(hn:t≠t'):b≠b':=by
 rintro rfl;unfold aC at h h';rw[h] at h';simp at h';exact hn h'.2
theorem kU(v0 v1 v2:Value):(Tryz.prog.info? 26).map (·.size)=some #[v0,v1,v2].size:=by
 show _=some 3
 kernel_rfl
theorem Z4k(t:Array Value)(h:t.size=19):∃ f:Nat->Value,t=#[f 0,f 1,f 2,f 3,f 4,f 5,f 6,f 7,f 8,f 9,f 10,f 11,f 12,f 13,f 14,f 15,f 16,f 17,f 18]/\∀ d,t.getD d undef=f d:=by
 obtain⟨l⟩:=t;have hl:l.length=19:=h
 have e:l=(List.range 19).map (fun i=>l.getD i undef):=by
  apply List.ext_getElem
  ·simp[hl]
  ·intro i h1 h2
   simp[List.getD,h1]
 exact⟨fun i=>l.getD i undef,congrArg List.toArray e,fun d=>by simp⟩
def exF(KB nu uc:Nat)(uo:Option Addr)(i:Nat)(W:World)(v:Value):Prop:=match i with
 | 0=>v = .agg #[.int .i64 0,.string ⟨#[]⟩,.string ⟨#[120,46,97]⟩,.int .i64 (-18),.slice none 0 0]
 | 1=>v = .agg #[.int .i64 1,.string ⟨#[]⟩,.string ⟨#[]⟩,.int .i64 0,.slice (some ⟨KB,0,none⟩) 2 2]
 | 2=>Fr W KB v
 | 3=>Bh W v 20 1 (-1)
 | 4=>Bh W v 30 2 0
 | 5=>Bh W v 17 1 (-1)
 | 6=>Fs W v
 | 7=>v = .slice uo nu uc
 | 8=>∃ q m,v = .agg #[q,m,.slice uo nu uc]/\Fr W KB q/\Fs W m
 | _=>True
theorem Z0v(KB nu uc:Nat)(uo:Option Addr):∀ i w w' v,exF KB nu uc uo i w v->Below w.heap.size w w'->exF KB nu uc uo i w' v:=by
 intro i w w' v h hb
 match i with
 | 0=>exact h
 | 1=>exact h
 | 2=>exact Fr.below h hb
 | 3=>exact Bh.below h hb
 | 4=>exact Bh.below h hb
 | 5=>exact Bh.below h hb
 | 6=>exact Fs.below h hb
 | 7=>exact h
 | 8=>obtain⟨q,m,h1,h2,h3⟩:=h;exact⟨q,m,h1,Fr.below h2 hb,Fs.below h3 hb⟩
 | k+9=>trivial
theorem Wl(w:World)(us:List Use)(uo:Option Addr)(uc:Nat)(hu:aY cQ w uo us)(kC:us.length<=uc) :
  Calls Tryz.prog 70 #[.slice uo us.length uc] w fun e w'=>(∃ cs,e = .returned (.agg cs.toArray)/\mO w' (exC us) cs)/\Below w.heap.size w w':=by
 have jJ:=I (fun W (hW:Below w.heap.size w W)=>hu.below hW);have sS:=I kC;have X1:=aC.new w 26 [.slice none 0 0,.slice none 0 0,.slice none 0 0];have kO:=bwA w (.cells ([.slice none 0 0,.slice none 0 0,.slice none 0 0]:List Value).toArray 26);generalize rE:w.alloc (.cells ([.slice none 0 0,.slice none 0 0,.slice none 0 0]:List Value).toArray 26)=w1 at *
 have nP:w1.heap.size=w.heap.size+1:=by rw[<- rE,eH]
 have A1:=aC.new w1 54 [.int .i64 0,.string ⟨#[]⟩,.string ⟨#[120,46,97]⟩,.int .i64 (-18),.slice none 0 0];have fH:=bwA w1 (.cells ([.int .i64 0,.string ⟨#[]⟩,.string ⟨#[120,46,97]⟩,.int .i64 (-18),.slice none 0 0]:List Value).toArray 54);replace X1:=X1.step fH;have pH:(w1.alloc (.cells ([.int .i64 0,.string ⟨#[]⟩,.string ⟨#[120,46,97]⟩,.int .i64 (-18),.slice none 0 0]:List Value).toArray 54)).heap.size=w1.heap.size+1:=eH _ _;have wT:=I rE;have fF:=I Zua;clear hu kC rE;generalize dH:us.length=nu at *;have iC:=I dH;clear dH
 go_enter Tryz.func70,Tryz.ntmps70
 go_upto_region 1 with(fail)
 rw[show w.alloc (.cells #[.slice none 0 0,.slice none 0 0,.slice none 0 0] 26)=w1 from wT.o]
 go_upto_region 2 with(fail)
 generalize w1.alloc (.cells #[.int .i64 0,.string ⟨#[]⟩,.string ⟨#[120,46,97]⟩,.int .i64 (-18),.slice none 0 0] 54)=w2 at *;rw[nP] at A1;obtain⟨K3,P3,b3⟩:=Ht w2 54 54 [.int .i64 0,.string ⟨#[120,46,98]⟩,.string ⟨#[]⟩,.int .i64 1,.slice none 0 0,.int .i64 0,.string ⟨#[]⟩,.string ⟨#[120,46,98]⟩,.int .i64 (-1),.slice none 0 0] [.int .i64 1,.string ⟨#[]⟩,.string ⟨#[]⟩,.int .i64 0,.slice (some ⟨w2.heap.size,0,none⟩) 2 2];have X3:=I (X1.step b3);have A3:=I (A1.step b3);have K3:=I K3;have P3:=I P3;have B3:=I (kO.trans ((fH.trans (b3.mono fH.size)).mono kO.size));clear X1 A1 kO fH nP pH b3
 go_upto_region 3 with(fail)
 generalize (w2.alloc (.cells #[.int .i64 0,.string ⟨#[120,46,98]⟩,.string ⟨#[]⟩,.int .i64 1,.slice none 0 0,.int .i64 0,.string ⟨#[]⟩,.string ⟨#[120,46,98]⟩,.int .i64 (-1),.slice none 0 0] 54)).alloc (.cells #[.int .i64 1,.string ⟨#[]⟩,.string ⟨#[]⟩,.int .i64 0,.slice (some ⟨w2.heap.size,0,none⟩) 2 2] 54)=w4 at *;obtain⟨KB,hKB⟩:=exq (w2.heap.size);rw[hKB] at K3 P3 ⊢;obtain⟨AB,hAB⟩:=exq (w.heap.size+1);rw[hAB] at A3 ⊢;obtain⟨BB,hBB⟩:=exq (KB+1);rw[hBB] at P3 ⊢;clear hKB hAB hBB;have XA:=A3;have XB:=P3;refine Ff 9 0 (exF KB nu uc uo) (by kernel_rfl) rfl (Z0v KB nu uc uo) (jD (by kernel_rfl)) (Fe (by kernel_rfl)) (iV (by kernel_rfl)) (Fg (by kernel_rfl)) ?hs ?he
 case hs =>
  intro i o aT hi listed a' w' H bA aU;have hb:=I H.below;obtain⟨t',df⟩:=a';obtain⟨f',rfl,-⟩:=Z4k t' H.tsize;obtain rfl:df=[]:=H.defers;have gJ:f' 0 = .slice uo nu uc:=bA 0 (gK (by kernel_rfl));have bB:f' 3 = .pointer (some ⟨AB,0,none⟩):=bA 3 (gK (by kernel_rfl));have bY:f' 4 = .pointer (some ⟨BB,0,none⟩):=bA 4 (gK (by kernel_rfl));have aA:=H.hC aU;clear aU H bA;have bP:i=0\/i=1\/i=2\/i=3\/i=4\/i=5\/i=6\/i=7\/i=8:=ED i aT;clear aT;rcases bP with rfl | rfl | rfl | rfl | rfl | rfl | rfl | rfl | rfl<;>obtain rfl:=bF hi;rw[bB];have X2:=XA.o.step hb.o;obtain⟨p0,p1,p2,p3,p4⟩:=X2.c5;clear X2
  rotate_left
  rw[bY];have X2:=XB.o.step hb.o;obtain⟨p0,p1,p2,p3,p4⟩:=X2.c5;clear X2
  rotate_left
  ·have fT:f' 10=_:=aA 0 10 rfl
   have fY:f' 11=_:=aA 1 11 rfl;clear aA;rw[fT,fY];clear fT fY gJ bB bY;have BX:=I (bwA w' (.cells #[.int .i64 0,.string ⟨#[]⟩,.string ⟨#[120,46,97]⟩,.int .i64 (-18),.slice none 0 0,.int .i64 1,.string ⟨#[]⟩,.string ⟨#[]⟩,.int .i64 0,.slice (some ⟨KB,0,none⟩) 2 2] 54));have HV:=hnw w' 54 [.int .i64 0,.string ⟨#[]⟩,.string ⟨#[120,46,97]⟩,.int .i64 (-18),.slice none 0 0,.int .i64 1,.string ⟨#[]⟩,.string ⟨#[]⟩,.int .i64 0,.slice (some ⟨KB,0,none⟩) 2 2];refine aP rfl ?_
   go_wp2_with fail
   exact aI ⟨_,rfl,BX.o,w'.heap.size,rfl,HV.o⟩
  ·clear aA
   clear gJ bB bY;refine aP rfl ?_
   go_wp2_with fail
   refine(fF.o 20 1 (-1) w').mono ?_;rintro e w4 ⟨⟨Bb,Tb,rfl,hB,hT⟩,b4⟩;have Mx:Hid (Bh w4 (.agg #[.slice (some ⟨Bb,0,none⟩) 2 2,.slice (some ⟨Tb,0,none⟩) 1 1,.int .i64 (-1)]) 20 1 (-1)):=I ⟨Bb,Tb,rfl,hB,hT⟩;have bC:=I b4;clear b4 hB hT
   go_wp2_with fail
   exact aI ⟨_,rfl,bC.o,Mx.o⟩
  ·clear aA
   clear gJ bB bY;refine aP rfl ?_
   go_wp2_with fail
   refine(fF.o 30 2 0 w').mono ?_;rintro e w4 ⟨⟨Bb,Tb,rfl,hB,hT⟩,b4⟩;have Mx:Hid (Bh w4 (.agg #[.slice (some ⟨Bb,0,none⟩) 2 2,.slice (some ⟨Tb,0,none⟩) 1 1,.int .i64 0]) 30 2 0):=I ⟨Bb,Tb,rfl,hB,hT⟩;have bC:=I b4;clear b4 hB hT
   go_wp2_with fail
   exact aI ⟨_,rfl,bC.o,Mx.o⟩
  ·clear aA
   clear gJ bB bY;refine aP rfl ?_
   go_wp2_with fail
   refine(fF.o 17 1 (-1) w').mono ?_;rintro e w4 ⟨⟨Bb,Tb,rfl,hB,hT⟩,b4⟩;have Mx:Hid (Bh w4 (.agg #[.slice (some ⟨Bb,0,none⟩) 2 2,.slice (some ⟨Tb,0,none⟩) 1 1,.int .i64 (-1)]) 17 1 (-1)):=I ⟨Bb,Tb,rfl,hB,hT⟩;have bC:=I b4;clear b4 hB hT
   go_wp2_with fail
   exact aI ⟨_,rfl,bC.o,Mx.o⟩
  ·have dC:exF KB nu uc uo 3 w' (f' 13):=aA 3 13 rfl
   obtain⟨wQ,Di,dC,hB13,hT13⟩:=dC;have fL:exF KB nu uc uo 4 w' (f' 14):=aA 4 14 rfl;obtain⟨Dj,Dk,fL,hB14,hT14⟩:=fL;have dR:exF KB nu uc uo 5 w' (f' 15):=aA 5 15 rfl;obtain⟨Dl,Dm,dR,hB15,hT15⟩:=dR;clear aA;rw[dC,fL,dR];clear dC fL dR gJ bB bY;have aw:=I (And.intro hB13 hT13);have ay:=I (And.intro hB14 hT14);have az:=I (And.intro hB15 hT15);clear hB13 hT13 hB14 hT14 hB15 hT15;have BX:=I (bwA w' (.cells #[.slice (some ⟨wQ,0,none⟩) 2 2,.slice (some ⟨Di,0,none⟩) 1 1,.int .i64 (-1),.slice (some ⟨Dj,0,none⟩) 2 2,.slice (some ⟨Dk,0,none⟩) 1 1,.int .i64 0,.slice (some ⟨Dl,0,none⟩) 2 2,.slice (some ⟨Dm,0,none⟩) 1 1,.int .i64 (-1)] 44));have HV:=hnw w' 44 [.slice (some ⟨wQ,0,none⟩) 2 2,.slice (some ⟨Di,0,none⟩) 1 1,.int .i64 (-1),.slice (some ⟨Dj,0,none⟩) 2 2,.slice (some ⟨Dk,0,none⟩) 1 1,.int .i64 0,.slice (some ⟨Dl,0,none⟩) 2 2,.slice (some ⟨Dm,0,none⟩) 1 1,.int .i64 (-1)];refine aP rfl ?_
   go_wp2_with fail
   exact aI ⟨_,rfl,BX.o,w'.heap.size,rfl,wQ,Di,Dj,Dk,Dl,Dm,HV.o,aw.o.1.step BX.o,aw.o.2.step BX.o,ay.o.1.step BX.o,ay.o.2.step BX.o,az.o.1.step BX.o,az.o.2.step BX.o⟩
  rw[gJ]
  rotate_left
  ·have kF:exF KB nu uc uo 2 w' (f' 12):=aA 2 12 rfl
   obtain⟨GQ,kF,hGQ⟩:=kF;have iL:exF KB nu uc uo 6 w' (f' 16):=aA 6 16 rfl;obtain⟨GM,iL,hGM⟩:=iL;have jA:f' 17=_:=aA 7 17 rfl;clear aA;rw[kF,iL,jA];clear kF iL jA gJ bB bY;have HQ:=I hGQ;have HM:=I hGM;clear hGQ hGM;refine aP rfl ?_
   go_wp2_with fail
   exact aI ⟨_,rfl,aG _ _,_,_,rfl,⟨GQ,rfl,HQ.o⟩,GM,rfl,HM.o⟩
  all_goals clear aA gJ bB bY
  all_goals (refine aP rfl ?_;go_wp2_with fail;exact aI ⟨_,rfl,aG _ _,rfl⟩)
 case he =>
  intro listed a' w4 H bA aD;have Gw:=H.done 8 _ 18 rfl (aD 8 (by decide)) rfl;have aK:=I H.below;obtain⟨zf,hz,rfl⟩:=H.actNz bA [10,11,12,13,14,15,16,17,18] (Fh (by kernel_rfl));rw[hz] at Gw;clear H aD bA hz;simp only[fcL,fnL,Act.put,sbT,scS,scZ];obtain⟨q8,m8,e8,MH,MK⟩:=Gw;rw[e8];clear e8;have HQ:=I MH;have HM:=I MK;have X4:=X3.st aK.o;have B4:=B3.tr aK.o;have K4:=I (K3.o.step aK.o);clear MH MK aK X3 B3 A3 P3 XA XB K3;obtain⟨GQ,eQ,hQ⟩:=HQ.o;obtain⟨GM,eM,wQ,Di,Dj,Dk,Dl,Dm,hM,gx,ML,gy,MM,gz,MN⟩:=HM.o;have F1:=I (And.intro hQ hM);have F2:=I (And.intro gx (And.intro ML (And.intro gy (And.intro MM (And.intro gz MN)))));clear hQ hM gx ML gy MM gz MN HQ HM;subst eQ eM;refine nE (aP rfl ?_)
  go_wp2_with (refine sG rfl 26 (.tmp 2) (.tmp 18) rfl w.heap.size #[.slice (some ⟨GQ,0,none⟩) 2 2,.slice (some ⟨GM,0,none⟩) 3 3,.slice uo nu uc] (by rfl) (by rfl) 26 _ X4.o (kU _ _ _) rfl (by simp[Value.oneCell']) ?_;intro w9 s9 u9;have S9:=I s9;have U9:=I u9;clear s9 u9)
  have s9:=S9.o;have u9:=U9.o;have MO:Fr w9 KB (.slice (some ⟨GQ,0,none⟩) 2 2):=⟨GQ,rfl,F1.o.1.upd u9 (F1.o.1.neT X4.o (by decide))⟩;have MP:Fs w9 (.slice (some ⟨GM,0,none⟩) 3 3):=⟨GM,rfl,wQ,Di,Dj,Dk,Dl,Dm,F1.o.2.upd u9 (F1.o.2.neT X4.o (by decide)),F2.o.1.upd u9 (F2.o.1.neT X4.o (by decide)),F2.o.2.1.upd u9 (F2.o.2.1.neT X4.o (by decide)),F2.o.2.2.1.upd u9 (F2.o.2.2.1.neT X4.o (by decide)),F2.o.2.2.2.1.upd u9 (F2.o.2.2.2.1.neT X4.o (by decide)),F2.o.2.2.2.2.1.upd u9 (F2.o.2.2.2.2.1.neT X4.o (by decide)),F2.o.2.2.2.2.2.upd u9 (F2.o.2.2.2.2.2.neT X4.o (by decide))⟩;have Gf:=K4.o.upd u9 (K4.o.neT X4.o (by decide));have MQ:=I (u9.below B4.o (aO _))
  have Uf:Hid (mO w9 (exC us) [.slice (some ⟨GQ,0,none⟩) 2 2,.slice (some ⟨GM,0,none⟩) 3 3,.slice uo nu uc]):=by
   obtain⟨g1,e1,h1⟩:=Fr.prds MO Gf;obtain⟨g2,e2,h2⟩:=Fs.mems MP
   obtain⟨rfl⟩:g1=GQ:=by simpa using e1.symm
   obtain⟨rfl⟩:g2=GM:=by simpa using e2.symm
   refine I ⟨_,2,_,3,uo,uc,?_,h1,h2,jJ.o _ MQ.o,by rw[exC,show us.length=nu from iC.o];exact sS.o⟩;rw[<- iC.o];rfl
  clear MO MP Gf u9;refine aI (vM ?_)
  go_wp2_with fail
  exact bodyPost_ret (results_cell_row (p:=2) (by kernel_rfl) _ _ w.heap.size 26 #[.slice (some ⟨GQ,0,none⟩) 2 2,.slice (some ⟨GM,0,none⟩) 3 3,.slice uo nu uc] (0,0) _ rfl S9.o Tryz.underlying26 rfl (kU _ _ _)) rfl ⟨⟨_,rfl,Uf.o⟩,MQ.o⟩
end
section
open Go.RowKit Go.Sort Go.Maps
def usE(q f:Int):Use:=⟨q,0,f,-1⟩
def Pc:List Wsh:=[⟨-1,2⟩]
theorem es1:iW (exC [usE 0 0])=[[0,1]]:=by kernel_rfl
theorem ec1:Lk (exC [usE 0 0])=(2,0):=by kernel_rfl
theorem es2:iW (exC [usE 0 1])=[[0]]:=by kernel_rfl
theorem ec2:Lk (exC [usE 0 1])=(1,0):=by kernel_rfl
theorem es3:iW (exC [usE 0 0,usE 1 0])=[[0,1],[0,2]]:=by kernel_rfl
theorem ec3:Lk (exC [usE 0 0,usE 1 0])=(3,0):=by kernel_rfl
theorem es4:iW (exC [usE 0 0,usE 1 0,usE 1 0])=[[1],[0,2],[0,2]]:=by kernel_rfl
theorem ec4:Lk (exC [usE 0 0,usE 1 0,usE 1 0])=(2,0):=by kernel_rfl
theorem ebl:Hu (exC [usE 0 0,usE 1 0,usE 1 0]) 0 0 [0,1,2]=true:=by kernel_rfl
theorem xe1:fh (exC [usE 1 0]) [] (usE 0 1) Pc=([],0):=by kernel_rfl
theorem xe2:fh (exC [usE 1 0,usE 1 0]) [] (usE 0 0) Pc=([0,1],0):=by kernel_rfl
theorem eun:pk (exC [usE 1 0]) [0,1]=3:=by kernel_rfl
theorem eud:uD (exC [usE 1 0]) [0,1]=true:=by kernel_rfl
theorem ekp:pt (exC [usE 1 0]) [] (usE 0 1) Pc=false:=by kernel_rfl
theorem enm:vT (exC [usE 0 1,usE 1 0])=[0,2]:=by kernel_rfl
theorem etl:pp (exC [usE 1 0]) (usE 0 1)=[0]:=by kernel_rfl
theorem ecm:pj (exC [usE 1 0]) [0,1]=[0]:=by kernel_rfl
theorem eas:(Bf (exC [usE 0 0,usE 1 0]) [-1,-1]).map (fun C=>(gD (aR (exC [usE 0 0,usE 1 0]) C),fO (exC [usE 0 0,usE 1 0]) 2 0 C []))=some (true,[0,2]):=by kernel_rfl
theorem FR{l:List Nat}(h:(l.all (fun y=>decide (y<256))&&decide (l.length<=9223372036854775807))=true):NmL l:=by
 simp only[dB,List.all_eq_true,decide_eq_true_eq] at h;exact h
theorem Z5k(us:List Use)(h:us.length<=1000000):CrwOk (exC us):=by
 have n0:NmL []:=FR rfl;have na:NmL [120,46,97]:=FR rfl;have nb:NmL [120,46,98]:=FR rfl;refine⟨?_,?_,by simp[exC],by simp[exC],h⟩
 ·intro p hp
  simp only[exC,List.mem_cons,List.not_mem_nil,or_false] at hp;rcases hp with rfl | rfl
  ·exact⟨⟨n0,na,trivial⟩,by decide⟩
  ·exact⟨⟨n0,n0,⟨nb,n0,trivial⟩,⟨n0,nb,trivial⟩,trivial⟩,by decide⟩
 ·intro m hm
  simp only[exC,List.mem_cons,List.not_mem_nil,or_false] at hm
  have hx:∀ a b r,EF (Fq a b r):=by
   intro a b r;refine⟨?_,by simp[Fq],by simp[Fq]⟩;intro x hx;simp only[Fq,List.mem_cons,List.not_mem_nil,or_false] at hx;rcases hx with rfl | rfl
   ·exact na
   ·exact nb
  rcases hm with rfl | rfl | rfl
  ·exact hx _ _ _
  ·exact hx _ _ _
  ·exact hx _ _ _
theorem Ft{W:World}{B:Nat}{us:List Use}{cs:List Value}(h:mO W (exC us) cs)(hT:Tab W B)(hn:us.length<=999):ArgC W (exC us) cs B:=⟨h,hT,Z5k us (by omega),hn⟩
theorem pu(w:World)(B:Nat)(hG:Tab w B)(us:List Use)(uo:Option Addr)(uc:Nat)(t:List (List Int))(ta:Option Addr)(tc n:Nat)(hu:aY cQ w uo us)(kC:us.length<=uc)(hn:us.length<=999)(ht:sF w t ta)(hs:iW (exC us)=t)(hc:Lk (exC us)=(n,0))(gC:t.length<=1000000/\∀ r∈t,r.length<=1000000) :
  Calls Tryz.prog 68 #[.slice uo us.length uc,.slice ta t.length tc,.int .i64 (n:Nat)] w fun e w'=>e = .returned (.bool true)/\Below w.heap.size w w':=by
 have MR:=I (Wl w us uo uc hu kC);have Rj:=I (fun W (hW:Below w.heap.size w W)=>ht.below hW);have lQ:=I (fun W (hW:Below w.heap.size w W) cs (lP:mO W (exC us) cs)=>Z0i W (exC us) cs B (Ft lP (gS.step (w:=w) hG hW) hn));have bQ:=I (fun W (hW:Below w.heap.size w W) cs (lP:mO W (exC us) cs)=>FF W (exC us) cs B (Ft lP (gS.step (w:=w) hG hW) hn));have MS:=I (fun W (hW:Below w.heap.size w W) so sc (Q0:sF W t so)=>ZG W t t so ta sc tc Q0 (ht.below hW) gC.1 gC.2);rw[hc] at lQ;unfold Ny at bQ;rw[hs] at bQ;clear hu ht hs hc gC hG;generalize us.length=nu at *;generalize t.length=nt at *
 go_enter Tryz.func68,Tryz.ntmps68
 go_upto_region 1 with(fail)
 go_wp2_with fail
 refine MR.o.mono ?_;rintro e w1 ⟨⟨cs,rfl,lP⟩,b1⟩
 have Ve:Hid (∃ qo qn qc mo mn mc xo xn xc,cs=[.slice qo qn qc,.slice mo mn mc,.slice xo xn xc]):=by
  obtain⟨qo,qc,mo,mc,uo,uc,h1,-⟩:=lP;exact I ⟨_,_,_,_,_,_,_,_,_,h1⟩
 have X1:=hnw w1 26 [.slice none 0 0,.slice none 0 0,.slice none 0 0];have bx:=bwA w1 (.cells #[.slice none 0 0,.slice none 0 0,.slice none 0 0] 26);have rV:=I lP;have BX:=I bx;have B1:=I b1;clear lP bx b1 MR;obtain⟨qo,qn,qc,mo,mn,mc,xo,xn,xc,rfl⟩:=Ve.o;clear Ve
 go_upto_region 2 with(refine sG rfl 26 (.tmp 7) (.tmp 11) rfl w1.heap.size #[.slice qo qn qc,.slice mo mn mc,.slice xo xn xc] (by rfl) (by rfl) 26 _ X1.o (kU _ _ _) rfl (by simp[Value.oneCell']) ?_;intro w9 s9 u9;have S9:=I s9;have U9:=I u9;clear s9 u9)
 have zo:=U9.o.below BX.o (aO _);have zq:=I (rV.o.below zo);have B9:=B1.tr zo;have S9:Hid (aC w9 w1.heap.size 26 [.slice qo qn qc,.slice mo mn mc,.slice xo xn xc]):=I S9.o;have HK:=I (lQ.o w9 B9.o _ zq.o);clear zo U9 rV BX B1 X1 lQ
 go_wp2_with (refine wpList_load_row rfl 26 (.tmp 7) rfl w1.heap.size ?x1 26 #[.slice qo qn qc,.slice mo mn mc,.slice xo xn xc] (0,0) _ S9.o Tryz.underlying26 rfl (kU _ _ _) ?_;(case x1=>rfl))
 refine HK.o.mono ?_;rintro e w2 ⟨rfl,b2⟩;have B2:=B9.tr b2;have S2:=S9.st b2;have Jj:=I (zq.o.below b2);clear b2 S9 zq B9 HK;have HK:=I (bQ.o w2 B2.o _ Jj.o);clear bQ
 go_upto_region 3 with(fail)
 go_wp2_with (refine wpList_load_row rfl 26 (.tmp 7) rfl w1.heap.size ?x1 26 #[.slice qo qn qc,.slice mo mn mc,.slice xo xn xc] (0,0) _ S2.o Tryz.underlying26 rfl (kU _ _ _) ?_;(case x1=>rfl))
 refine HK.o.mono ?_;rintro e w3 ⟨⟨so,sc,rfl,MT⟩,b3⟩;have B3:=B2.tr b3;have xT:=I (MS.o w3 B3.o so sc MT);clear b3 B2 S2 Jj HK MS MT
 go_wp2_with fail
 refine xT.o.mono ?_;rintro e w4 ⟨rfl,b4⟩;have B4:=B3.tr b4;clear b4 B3 xT;rw[decide_eq_true trivial]
 go_wp2_with fail
 go_ret;exact⟨by simp,B4.o⟩
end
end Go.Proofs.YtbcgocpihobjnaaGreatDoor
