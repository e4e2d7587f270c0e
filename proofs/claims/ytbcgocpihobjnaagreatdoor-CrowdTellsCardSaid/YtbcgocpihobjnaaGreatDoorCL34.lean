import Derived.Test.YtbcgocpihobjnaaGreatDoorCL33
set_option linter.all false
set_option maxHeartbeats 16000000
set_option maxRecDepth 100000
namespace Go.Proofs.YtbcgocpihobjnaaGreatDoor
section
open Go.RowKit Go.Sort Go.Maps
def jE(c:Crw)(x:Use):Crw:=⟨c.qs,c.ms,c.us++[x]⟩
def Lg(WS:Nat)(W:World)(bo:Option Addr)(RX:List Bool):Prop:=∃ V,bo=some ⟨V,0,none⟩/\WS<=V/\aC W V 4 (bvs RX)
theorem Lg.below{WS:Nat}{w w':World}{bo:Option Addr}{RX:List Bool}(h:Lg WS w bo RX)(hb:Below w.heap.size w w'):Lg WS w' bo RX:=by
 obtain⟨V,h1,h2,h3⟩:=h;exact⟨V,h1,h2,h3.step hb⟩
theorem Lg.flat{WS X:Nat}{w w':World}{bo:Option Addr}{RX:List Bool}(h:Lg WS w bo RX)(on:Only w w' (· = X))(hx:X<WS):aY lO w' bo RX:=by
 obtain⟨V,rfl,h2,h3⟩:=h;exact(h3.only on (by omega)).flatB
theorem YD(t:Array Value)(h:t.size=43):∃ f:Nat->Value,t=#[f 0,f 1,f 2,f 3,f 4,f 5,f 6,f 7,f 8,f 9,f 10,f 11,f 12,f 13,f 14,f 15,f 16,f 17,f 18,f 19,f 20,f 21,f 22,f 23,f 24,f 25,f 26,f 27,f 28,f 29,f 30,f 31,f 32,f 33,f 34,f 35,f 36,f 37,f 38,f 39,f 40,f 41,f 42]/\∀ d,t.getD d undef=f d:=by
 obtain⟨l⟩:=t;have hl:l.length=43:=h
 have e:l=(List.range 43).map (fun i=>l.getD i undef):=by
  apply List.ext_getElem
  ·simp[hl]
  ·intro i h1 h2
   simp[List.getD,h1]
 exact⟨fun i=>l.getD i undef,congrArg List.toArray e,fun d=>by simp⟩
def oz(A X sb WS:Nat)(uo:Option Addr)(nu uc:Nat)(us:List Value)(u0 u1 u2 u3:Int)(i:Nat)(W:World)(v:Value):Prop:=match i with
 | 0=>v = .pointer (some ⟨X,0,none⟩)
 | 1=>v = .pointer (some ⟨A,0,none⟩)
 | 2=>v = .pointer (some ⟨A,0,none⟩)
 | 3=>v = .pointer (some ⟨A,0,none⟩)
 | 4=>v = .pointer (some ⟨A,2,none⟩)
 | 5=>v = .slice uo nu uc
 | 6=>v = .slice uo nu nu
 | 7=>v = .agg #[.int .i64 u0,.int .i64 u1,.int .i64 u2,.int .i64 u3]
 | 8=>∃ V,v = .slice (some ⟨V,0,none⟩) 1 1/\aC W V 39 [.int .i64 u0,.int .i64 u1,.int .i64 u2,.int .i64 u3]
 | 9=>∃ g cap,v = .slice (some ⟨g,0,none⟩) (nu+1) cap/\OwnK W WS 4 (nu+1) cap (us++[.int .i64 u0,.int .i64 u1,.int .i64 u2,.int .i64 u3]) (some ⟨g,0,none⟩)
 | _=>True
theorem Zw4(A X sb WS:Nat)(uo:Option Addr)(nu uc:Nat)(us:List Value)(u0 u1 u2 u3:Int):∀ i w w' v,oz A X sb WS uo nu uc us u0 u1 u2 u3 i w v->Below w.heap.size w w'->oz A X sb WS uo nu uc us u0 u1 u2 u3 i w' v:=by
 intro i w w' v h hb
 match i with
 | 0=>exact h
 | 1=>exact h
 | 2=>exact h
 | 3=>exact h
 | 4=>exact h
 | 5=>exact h
 | 6=>exact h
 | 7=>exact h
 | 8=>obtain⟨V,h1,h2⟩:=h;exact⟨V,h1,h2.step hb⟩
 | 9=>obtain⟨g,cap,h1,h2⟩:=h;exact⟨g,cap,h1,h2.below hb⟩
 | k+10=>trivial
def et(A X sb WS:Nat)(co:Option Addr)(nc cc nm:Nat)(RX:List Bool)(vals:List Value)(u0 u1 u2 u3:Int)(i:Nat)(W:World)(v:Value):Prop:=match i with
 | 0=>v = .pointer (some ⟨X,0,none⟩)
 | 1=>v = .pointer (some ⟨A,0,none⟩)
 | 2=>v = .pointer (some ⟨A,0,none⟩)
 | 3=>v = .pointer (some ⟨A,4,none⟩)
 | 4=>v = .slice co nc cc
 | 5=>v = .slice co nc nc
 | 6=>v = .pointer (some ⟨A,0,none⟩)
 | 7=>v = .agg #[.int .i64 u0,.int .i64 u1,.int .i64 u2,.int .i64 u3]
 | 8=>∃ bo,v = .slice bo nm nm/\Lg WS W bo RX
 | 9=>∃ V bo,v = .slice (some ⟨V,0,none⟩) 1 1/\aC W V 87 [.slice bo nm nm]/\Lg WS W bo RX
 | 10=>∃ g cap bo,v = .slice (some ⟨g,0,none⟩) (nc+1) cap/\OwnK W WS 1 (nc+1) cap (vals++[.slice bo nm nm]) (some ⟨g,0,none⟩)/\Lg WS W bo RX
 | _=>True
theorem Zw5(A X sb WS:Nat)(co:Option Addr)(nc cc nm:Nat)(RX:List Bool)(vals:List Value)(u0 u1 u2 u3:Int):∀ i w w' v,et A X sb WS co nc cc nm RX vals u0 u1 u2 u3 i w v->Below w.heap.size w w'->et A X sb WS co nc cc nm RX vals u0 u1 u2 u3 i w' v:=by
 intro i w w' v h hb
 match i with
 | 0=>exact h
 | 1=>exact h
 | 2=>exact h
 | 3=>exact h
 | 4=>exact h
 | 5=>exact h
 | 6=>exact h
 | 7=>exact h
 | 8=>obtain⟨bo,h1,h2⟩:=h;exact⟨bo,h1,h2.below hb⟩
 | 9=>obtain⟨V,bo,h1,h2,h3⟩:=h;exact⟨V,bo,h1,h2.step hb,h3.below hb⟩
 | 10=>obtain⟨g,cap,bo,h1,h2,h3⟩:=h;exact⟨g,cap,bo,h1,h2.below hb,h3.below hb⟩
 | k+11=>trivial
theorem EZ:(Tryz.prog.info? 39).map (fun i=>(i.zero,i.size,i.bytes))=some (some (.agg #[.int .i64 0,.int .i64 0,.int .i64 0,.int .i64 0]),4,32):=by kernel_rfl
theorem YE(w:World)(A:Nat)(c:Crw)(H C:List (List Bool))(x:Use)(hr:fG w A c H C)(dL:0<=x.q)(kL:x.q.toNat<H.length)(hH:∀ r∈H,r.length=c.ms.length)(hm:c.ms.length<=1000000)(hu:c.us.length<=1000000)(hC:C.length<=1000000) :
  Calls Tryz.prog 109 #[.pointer (some ⟨A,0,none⟩),.agg (cQ x).toArray] w fun e w'=>∃ X,e = .returned (.pointer (some ⟨X,0,none⟩))/\fG w' X (jE c x) H (C++[eY c H x])/\w.heap.size<=X/\Below w.heap.size w w':=by
 have mD:=I (fun W (hW:Below w.heap.size w W)=>EN W A c H C x (hr.below hW) dL kL hH hm);have eX:Hid ((eY c H x).length=c.ms.length):=I (Sy c H x);obtain⟨qo,mo,uo,ho,co,qc,mc,uc,hc,cc,hA,hR,cF,eK⟩:=hr;obtain⟨vals,kD,xV,jn,Mn⟩:=YC hR.c
 have iB:Hid (∀ w' X uo' uc' co' cc' bo,Below w.heap.size w w'->aC w' X 113 (qO (jE c x) H (C++[eY c H x]) qo mo uo' ho co' qc mc uc' hc cc')->OwnK w' w.heap.size 4 (c.us.length+1) uc' (c.us.flatMap cQ++cQ x) uo'->OwnK w' w.heap.size 1 (C.length+1) cc' (vals++[.slice bo c.ms.length c.ms.length]) co'->aY lO w' bo (eY c H x)->fG w' X (jE c x) H (C++[eY c H x])):=I (fun w' X uo' uc' co' cc' bo hb hX hU hK hf=>by
  have h8:=hR.below hb;refine⟨qo,mo,uo',ho,co',qc,mc,uc',hc,cc',hX,⟨h8.q,h8.m,?_,h8.h,?_⟩,?_,?_⟩
  ·have e:c.us.flatMap cQ++cQ x=(jE c x).us.flatMap cQ:=by unfold jE;simp
   rw[e] at hU;exact hU.flatR mN (by unfold jE;simp)
  ·cases hK with
   | «at» g off h1 h2 h3 h4 =>
    refine .inr ⟨g,off,rfl,h1.lt,fun i row hi=>?_⟩;rcases gQ i C.length with h | h
    ·rw[List.getElem?_append_left h] at hi
     obtain⟨bo',bc',h5,h6⟩:=xV i row hi;exact⟨bo',bc',h1.cells i _ (by rw[List.getElem?_append_left (by rw[kD];exact h)];exact h5),h6.below hb⟩
    ·rw[List.getElem?_append_right h] at hi
     have wA:i-C.length=0:=by
      have:=(fD.1 hi).1;simp at this;omega
     rw[wA] at hi
     obtain rfl:eY c H x=row:=by simpa using hi
     refine⟨bo,c.ms.length,h1.cells i _ ?_,hf⟩;rw[List.getElem?_append_right (by rw[kD];exact h),kD,wA,eX.o];rfl
   | nil h1 h2 h3=>simp at h1
  ·unfold jE
   rw[gL]
   cases hU with
   | nil _ h _=>omega
   | «at» g off h1 h2 h3 h4=>exact h4
  ·rw[gL]
   cases hK with
   | nil _ h _=>omega
   | «at» g off h1 h2 h3 h4=>exact h4)
 have AW:=I (fun W (hW:Below w.heap.size w W)=>hA.step hW);unfold qO at AW
 have Ue:Hid (uo=none->c.us.length=0):=I (fun e=>by
  rcases hR.u with h | ⟨g,off,h,-⟩
  ·rw[h];rfl
  ·rw[e] at h;cases h)
 have F0:Hid (c.us.flatMap cQ=[]\/∃ g off,uo=some ⟨g,off,none⟩/\g<w.heap.size/\dD w g off (c.us.flatMap cQ)):=I (by
  rcases hR.u with h | h
  ·rw[h];exact .inl rfl
  ·exact .inr h)
 have jo:Hid ((c.us.flatMap cQ).length=c.us.length*4):=I (Fi cQ 4 mN c.us)
 have F3:Hid (vals=[]\/∃ g off,co=some ⟨g,off,none⟩/\g<w.heap.size/\dD w g off vals):=I (by
  rcases Mn with h | h
  ·exact .inl (List.length_eq_zero_iff.1 (by rw[kD];exact h))
  ·exact .inr h)
 have Gb:=I jn;have jG:Hid (vals.length=C.length*1):=I (by rw[kD,Nat.mul_one]);have Mj:=I cF;have Uf:=I eK;clear hA hR kD xV jn Mn cF eK dL kL hH;have zH:Hid ((jE c x).us.length=c.us.length+1):=I (by unfold jE;simp);have JX:Hid ((C++[eY c H x]).length=C.length+1):=I (by simp);generalize hRX:eY c H x=RX at *;clear hRX;have F4:Hid (∀ uo' uc' co' cc',qO (jE c x) H (C++[RX]) qo mo uo' ho co' qc mc uc' hc cc'=[.slice qo c.qs.length qc,.slice mo c.ms.length mc,.slice uo' (c.us.length+1) uc',.slice ho H.length hc,.slice co' (C.length+1) cc']):=I (fun uo' uc' co' cc'=>by unfold qO;rw[zH.o,JX.o];rfl);have mX:Hid (cQ x=[.int .i64 x.q,.int .i64 x.w,.int .i64 x.f,.int .i64 x.h]):=I rfl;generalize hUX:cQ x=ux at *;have G0:=I hUX;clear hUX zH JX;generalize c.us.flatMap cQ=us at *;generalize c.qs.length=nq at *;generalize c.ms.length=nm at *;generalize c.us.length=nu at *;generalize H.length=nh at *;generalize C.length=nc at *;obtain rfl:=mX.o;generalize x.q=u0 at *;generalize x.w=u1 at *;generalize x.f=u2 at *;generalize x.h=u3 at *;clear mX
 go_enter Tryz.func109,Tryz.ntmps109
 go_upto_region 1 with(fail)
 obtain⟨sb,Mo⟩:=exq (w.heap.size);have mY:=I Mo;have X1:Hid (aC (w.alloc (.cells #[.int .i64 u0,.int .i64 u1,.int .i64 u2,.int .i64 u3] 39)) sb 39 [.int .i64 u0,.int .i64 u1,.int .i64 u2,.int .i64 u3]):=I (aC.newAt _ _ _ _ Mo.symm);have B1:=I (bwA w (.cells #[.int .i64 u0,.int .i64 u1,.int .i64 u2,.int .i64 u3] 39));rw[Mo];clear Mo;generalize w.alloc (.cells #[.int .i64 u0,.int .i64 u1,.int .i64 u2,.int .i64 u3] 39)=w1 at *;refine Ku [0,1,2,3,4,5,6,7,8] [9,10] (fun w'=>aC w' A 113 [.slice qo nq qc,.slice mo nm mc,.slice uo nu uc,.slice ho nh hc,.slice co nc cc]) (by kernel_rfl) (by kernel_rfl) (by kernel_rfl) (fun _ _ d _ _ h=>by cases d<;>exact h) ((AW.o w1 B1.o).step (aG _ _).drew) ?_;simp only[iH,List.filterMap_cons,List.filterMap_nil,List.getElem?_cons_zero,List.getElem?_cons_succ,Option.map_some,List.map_cons,List.map_nil];apply Exists.intro;refine⟨?hh,?ht⟩
 case hh =>
  intro w' bM;obtain⟨c0,c1,c2,c3⟩:=bM.c4;clear bM
  repeat still_step
  exact wpStill_nil rfl
 case ht =>
  have BD:=(aG w1.heap.size w1).drew;have X2:=X1.st BD;have B2:=B1.tr BD;clear BD X1 B1;generalize w1.drew=w2 at *;have A2:=AW.o w2 B2.o;have bx:=bwA w2 (.cells #[.slice qo nq qc,.slice mo nm mc,.slice uo nu uc,.slice ho nh hc,.slice none 0 0] 113);refine jT ?_
  go_wp2_with fail
  refine aI ⟨A2.step bx,?_⟩;obtain⟨X,hX⟩:=exq (w2.heap.size);have XV:Hid (aC (w2.alloc (.cells #[.slice qo nq qc,.slice mo nm mc,.slice uo nu uc,.slice ho nh hc,.slice none 0 0] 113)) X 113 [.slice qo nq qc,.slice mo nm mc,.slice uo nu uc,.slice ho nh hc,.slice none 0 0]):=I (aC.newAt _ _ _ _ hX.symm);have X3:=X2.st bx;have B3:=B2.tr bx;have lR:Hid (w.heap.size<=X/\sb<X):=I ⟨by rw[<- hX];exact B2.o.size,by rw[<- hX];exact X2.o.lt⟩;rw[hX];clear bx A2 hX X2 B2;generalize w2.alloc (.cells #[.slice qo nq qc,.slice mo nm mc,.slice uo nu uc,.slice ho nh hc,.slice none 0 0] 113)=w3 at *;refine Kt ?_
  go_upto_region 2 with(fail)
  have Yt:=I (fun W=>Zw2 W uo nu uc Mj.o Ue.o);have Yu:=I (fun W=>Zw3 W co nc cc Uf.o Gb.o);have HB:=B3;have XS:=X3;refine Ff 10 3 (oz A X sb w3.heap.size uo nu uc us u0 u1 u2 u3) (by kernel_rfl) rfl (Zw4 A X sb w3.heap.size uo nu uc us u0 u1 u2 u3) (jD (by kernel_rfl)) (Fe (by kernel_rfl)) (iV (by kernel_rfl)) (Fg (by kernel_rfl)) ?hs ?he
  case hs =>
   intro i o aT hi listed a' w' H bA aU;have hb:=I H.below;obtain⟨t',df⟩:=a';obtain⟨f',rfl,-⟩:=YD t' H.tsize;obtain rfl:df=[]:=H.defers;have cD:f' 5 = .pointer (some ⟨X,0,none⟩):=bA 5 (gK (by kernel_rfl));have gJ:f' 0 = .pointer (some ⟨A,0,none⟩):=bA 0 (gK (by kernel_rfl));have bB:f' 3 = .pointer (some ⟨sb,0,none⟩):=bA 3 (gK (by kernel_rfl));have aA:=H.hC aU;clear aU H bA;have bP:i=0\/i=1\/i=2\/i=3\/i=4\/i=5\/i=6\/i=7\/i=8\/i=9:=en i aT;clear aT;rcases bP with rfl | rfl | rfl | rfl | rfl | rfl | rfl | rfl | rfl | rfl<;>obtain rfl:=bF hi;rw[cD]
   rotate_left
   rw[gJ]
   rotate_left
   rw[show f' 17=_ from aA 1 17 rfl]
   rotate_left
   rw[show f' 18=_ from aA 2 18 rfl]
   rotate_left
   rw[show f' 19=_ from aA 3 19 rfl]
   rotate_left
   rw[show f' 20=_ from aA 4 20 rfl];have ha:=AW.o w' (HB.o.trans (hb.o.mono HB.o.size));have c2:=ha.cell 2 _ rfl;clear ha
   rotate_left
   ·have dR:f' 21=_:=aA 5 21 rfl
    clear aA;rw[dR];clear dR cD gJ bB;refine aP rfl ?_
    go_wp2_with fail
    refine(Yt.o w').mono ?_;rintro e w4 ⟨rfl,rfl⟩
    go_wp2_with fail
    exact aI ⟨_,rfl,aG _ _,rfl⟩
   rw[bB];have hx:=XS.o.step hb.o;obtain⟨p0,p1,p2,p3⟩:=hx.c4;clear hx
   rotate_left
   ·have jA:f' 23=_:=aA 7 23 rfl
    clear aA;rw[jA];clear jA cD gJ bB;have bx:=bwA w' (.cells #[.int .i64 u0,.int .i64 u1,.int .i64 u2,.int .i64 u3] 39);have HV:=hnw w' 39 [.int .i64 u0,.int .i64 u1,.int .i64 u2,.int .i64 u3];have BX:=I bx;clear bx;refine aP rfl ?_
    go_wp2_with fail
    exact aI ⟨_,rfl,BX.o,w'.heap.size,rfl,HV.o⟩
   ·have iL:f' 22=_:=aA 6 22 rfl
    have fE:oz A X sb w3.heap.size uo nu uc us u0 u1 u2 u3 8 w' (f' 24):=aA 8 24 rfl;obtain⟨V,fE,hV⟩:=fE;clear aA;rw[iL,fE];clear iL fE cD gJ bB;have HV:=I hV;clear hV;have kP:=HB.tr hb.o
    have uw:Hid (us=[]\/∃ g off,uo=some ⟨g,off,none⟩/\g<w'.heap.size/\dD w' g off us):=I (by
     rcases F0.o with h | ⟨g,off,h1,h2,h3⟩
     ·exact .inl h
     ·exact .inr ⟨g,off,h1,gR h2 kP.o.size,h3.of_block (kP.o.block g h2)⟩)
    refine aP rfl ?_;refine EY 24 39 (.agg #[.int .i64 0,.int .i64 0,.int .i64 0,.int .i64 0]) 4 32 Tryz.underlying24 EZ rfl (by omega) (by omega) w' rfl (.tmp 22) (.tmp 24) rfl uo nu us ?q1 Ue.o jo.o uw.o V 1 1 [.int .i64 u0,.int .i64 u1,.int .i64 u2,.int .i64 u3] 39 ?q2 HV.o rfl (by omega) ?q3 ?q4 ?_
    case q1=>rfl
    case q2=>rfl
    case q3=>simp[Value.oneCell']
    case q4=>omega
    intro g5 c5 wa o8 b8;have O5:=I (o8.low hb.o.size);have B5:=I b8;clear o8 b8
    go_wp2_with fail
    exact aI ⟨_,rfl,B5.o,g5,c5,rfl,O5.o⟩
   all_goals clear aA cD gJ bB
   all_goals (refine aP rfl ?_;go_wp2_with fail;exact aI ⟨_,rfl,aG _ _,rfl⟩)
  case he =>
   intro listed a' w4 H bA aD;have rC:=H.done 0 _ 16 rfl (aD 0 (by decide)) rfl;have pJ:=H.done 9 _ 25 rfl (aD 9 (by decide)) rfl;have aK:=I H.below;obtain⟨zf,hz,rfl⟩:=H.actNz bA [16,17,18,19,20,21,22,23,24,25] (Fh (by kernel_rfl));rw[hz] at rC pJ;clear H aD bA hz;simp only[fcL,fnL,Act.put,sbT,scS,scZ];rw[show zf 16=_ from rC];clear rC;obtain⟨g5,c5,e9,hO5⟩:=pJ;rw[e9];clear e9;have B4:=B3.tr aK.o;have X4:=X3.st aK.o;have jp:=XV.st aK.o;have O5:=I hO5;have xK:X<w3.heap.size:=XV.o.lt;have uy:=I B3.o.size;clear hO5 aK X3 XV B3 HB XS Yt;have JY:Hid (g5≠X):=I (by have:=(O5.o.blk_lt (g:=g5) rfl).1;omega);have O5:=I (O5.o.low (B':=w.heap.size) uy.o);have x2:=jp.o.cell 2 _ rfl;have xf:=jp.o.warm 2;refine nE (aP rfl ?_)
   go_wp2_with fail
   refine aI (nE (aP rfl ?_))
   go_wp2_with fail
   refine aI (nE (aP rfl ?_))
   go_wp2_with fail
   refine aI (nE (aP rfl ?_))
   go_wp2_with fail
   refine aI (vM ?_);clear x2 xf;have on:=(Only.refl w4 (· = X)).setCell (a:=⟨X,2,none⟩) (.slice (some ⟨g5,0,none⟩) (nu+1) c5) rfl;have uz:=I (jp.o.set 2 (.slice (some ⟨g5,0,none⟩) (nu+1) c5));have X5:=I (X4.o.only on (fun e=>by have:=lR.o.2;omega));have B5:=I (Only.later B4.o on (fun g hg=>by have:=lR.o.1;omega));have O6:=I (O5.o.of_block (fun g e hl=>on.block g hl (fun e2=>by have h:g5=g:=bF e;exact JY.o (h.trans e2))) on.size);clear on O5 X4 jp B4;generalize w4.setCell ⟨X,2,none⟩ (.slice (some ⟨g5,0,none⟩) (nu+1) c5)=w5 at *
   go_upto_region 3 with(fail)
   have HB:=B5;have XS:=X5;refine Ff 11 2 (et A X sb w5.heap.size co nc cc nm RX vals u0 u1 u2 u3) (by kernel_rfl) rfl (Zw5 A X sb w5.heap.size co nc cc nm RX vals u0 u1 u2 u3) (jD (by kernel_rfl)) (Fe (by kernel_rfl)) (iV (by kernel_rfl)) (Fg (by kernel_rfl)) ?hs ?he
   case hs =>
    intro i o aT hi listed a' w' H bA aU;have hb:=I H.below;obtain⟨t',df⟩:=a';obtain⟨f',rfl,-⟩:=YD t' H.tsize;obtain rfl:df=[]:=H.defers;have cD:f' 5 = .pointer (some ⟨X,0,none⟩):=bA 5 (gK (by kernel_rfl));have gJ:f' 0 = .pointer (some ⟨A,0,none⟩):=bA 0 (gK (by kernel_rfl));have bB:f' 3 = .pointer (some ⟨sb,0,none⟩):=bA 3 (gK (by kernel_rfl));have aA:=H.hC aU;clear aU H bA;have bP:i=0\/i=1\/i=2\/i=3\/i=4\/i=5\/i=6\/i=7\/i=8\/i=9\/i=10:=VX i aT;clear aT;rcases bP with rfl | rfl | rfl | rfl | rfl | rfl | rfl | rfl | rfl | rfl | rfl<;>obtain rfl:=bF hi;rw[cD]
    rotate_left
    rw[gJ]
    rotate_left
    rw[show f' 30=_ from aA 1 30 rfl]
    rotate_left
    rw[show f' 31=_ from aA 2 31 rfl]
    rotate_left
    rw[show f' 32=_ from aA 3 32 rfl];have ha:=AW.o w' (HB.o.trans (hb.o.mono HB.o.size));have c4:=ha.cell 4 _ rfl;clear ha
    rotate_left
    ·have fL:f' 33=_:=aA 4 33 rfl
     clear aA;rw[fL];clear fL cD gJ bB;refine aP rfl ?_
     go_wp2_with fail
     refine(Yu.o w').mono ?_;rintro e w4 ⟨rfl,rfl⟩
     go_wp2_with fail
     exact aI ⟨_,rfl,aG _ _,rfl⟩
    rw[gJ]
    rotate_left
    rw[bB];have hx:=XS.o.step hb.o;obtain⟨p0,p1,p2,p3⟩:=hx.c4;clear hx
    rotate_left
    ·have iL:f' 35=_:=aA 6 35 rfl
     have jA:f' 36=_:=aA 7 36 rfl;clear aA;rw[iL,jA];clear iL jA cD gJ bB;refine aP rfl ?_
     go_wp2_with fail
     refine(mD.o w' (HB.o.trans (hb.o.mono HB.o.size))).mono ?_;rintro e w4 ⟨bo,rfl,-,⟨V,nL,hbV,hbW⟩,b4⟩;have qX:Hid (Lg w5.heap.size w4 bo RX):=I ⟨V,nL,dQ hb.o.size hbV,hbW⟩;have bC:=I b4;clear nL hbV hbW b4
     go_wp2_with fail
     exact aI ⟨_,rfl,bC.o,bo,rfl,qX.o⟩
    ·have fE:et A X sb w5.heap.size co nc cc nm RX vals u0 u1 u2 u3 8 w' (f' 37):=aA 8 37 rfl
     obtain⟨bo,fE,dE⟩:=fE;clear aA;rw[fE];clear fE cD gJ bB;have qX:=I dE;clear dE;have bx:=bwA w' (.cells #[.slice bo nm nm] 87);have HV:=hnw w' 87 [.slice bo nm nm];have BX:=I bx;clear bx;refine aP rfl ?_
     go_wp2_with fail
     exact aI ⟨_,rfl,BX.o,w'.heap.size,bo,rfl,HV.o,qX.o.below BX.o⟩
    ·have dR:f' 34=_:=aA 5 34 rfl
     have oA:et A X sb w5.heap.size co nc cc nm RX vals u0 u1 u2 u3 9 w' (f' 38):=aA 9 38 rfl;obtain⟨V,bo,oA,hV,dE⟩:=oA;clear aA;rw[dR,oA];clear dR oA cD gJ bB;have HV:=I hV;have qX:=I dE;clear hV dE;have kP:=HB.tr hb.o
     have vd:Hid (vals=[]\/∃ g off,co=some ⟨g,off,none⟩/\g<w'.heap.size/\dD w' g off vals):=I (by
      rcases F3.o with h | ⟨g,off,h1,h2,h3⟩
      ·exact .inl h
      ·exact .inr ⟨g,off,h1,gR h2 kP.o.size,h3.of_block (kP.o.block g h2)⟩)
     refine aP rfl ?_;refine EY 86 87 (.slice none 0 0) 1 24 Tryz.underlying86 Hr rfl (by omega) (by omega) w' rfl (.tmp 34) (.tmp 38) rfl co nc vals ?q1 Gb.o jG.o vd.o V 1 1 [.slice bo nm nm] 87 ?q2 HV.o rfl (by omega) ?q3 ?q4 ?_
     case q1=>rfl
     case q2=>rfl
     case q3=>simp[Value.oneCell']
     case q4=>omega
     intro g6 c6 wa o8 b8;have O5:=I (o8.low hb.o.size);have B5:=I b8;clear o8 b8
     go_wp2_with fail
     exact aI ⟨_,rfl,B5.o,g6,c6,bo,rfl,O5.o,qX.o.below B5.o⟩
    all_goals clear aA cD gJ bB
    all_goals (refine aP rfl ?_;go_wp2_with fail;exact aI ⟨_,rfl,aG _ _,rfl⟩)
   case he =>
    intro listed a' w4 H bA aD;have rC:=H.done 0 _ 29 rfl (aD 0 (by decide)) rfl;have Cv:=H.done 10 _ 39 rfl (aD 10 (by decide)) rfl;have aK:=I H.below;obtain⟨zf,hz,rfl⟩:=H.actNz bA [29,30,31,32,33,34,35,36,37,38,39] (Fh (by kernel_rfl));rw[hz] at rC Cv;clear H aD bA hz;simp only[fcL,fnL,Act.put,sbT,scS,scZ];rw[show zf 29=_ from rC];clear rC;obtain⟨g6,c6,bo,Yv,hO6,dE⟩:=Cv;rw[Yv];clear Yv;have B6:=B5.tr aK.o;have ve:=uz.st aK.o;have O7:=I (O6.o.below aK.o);have P7:=I hO6;have qX:=I dE;have G1:X<w5.heap.size:=uz.o.lt;have vg:=I B5.o.size;clear hO6 aK dE uz B5 HB XS Yu X5 O6;have G3:Hid (g6≠X):=I (by have:=(P7.o.blk_lt (g:=g6) rfl).1;omega);have P7:=I (P7.o.low (B':=w.heap.size) vg.o);have x2:=ve.o.cell 4 _ rfl;have xf:=ve.o.warm 4;refine nE (aP rfl ?_)
    go_wp2_with fail
    refine aI (nE (aP rfl ?_))
    go_wp2_with fail
    refine aI (nE (aP rfl ?_))
    go_wp2_with fail
    refine aI (vM ?_);clear x2 xf;have on:=(Only.refl w4 (· = X)).setCell (a:=⟨X,4,none⟩) (.slice (some ⟨g6,0,none⟩) (nc+1) c6) rfl;have G4:=I (ve.o.set 4 (.slice (some ⟨g6,0,none⟩) (nc+1) c6));have B7:=I (Only.later B6.o on (fun g hg=>by have:=lR.o.1;omega));have O8:=I (O7.o.of_block (fun g e hl=>on.block g hl (fun e2=>by have h:g5=g:=bF e;exact JY.o (h.trans e2))) on.size);have P8:=I (P7.o.of_block (fun g e hl=>on.block g hl (fun e2=>by have h:g6=g:=bF e;exact G3.o (h.trans e2))) on.size);have vh:=I (qX.o.flat on G1)
    go_wp2_with fail
    go_ret;exact⟨X,rfl,iB.o _ X _ _ _ _ bo B7.o (by rw[F4.o];exact G4.o) O8.o P8.o vh.o,lR.o.1,B7.o⟩
end
section
open Go.RowKit Go.Sort Go.Maps
structure ArgC (w:World) (c:Crw) (cs:List Value) (B:Nat):Prop where
 crw:mO w c cs
 tab:Tab w B
 ok:CrwOk c
 nu:c.us.length<=999
theorem ArgC.below{w w':World}{c:Crw}{cs:List Value}{B:Nat}(h:ArgC w c cs B)(hb:Below w.heap.size w w'):ArgC w' c cs B:=⟨h.crw.below hb,gS.step (w:=w) h.tab hb,h.ok,h.nu⟩
theorem ArgC.form{w:World}{c:Crw}{cs:List Value}{B:Nat}(h:ArgC w c cs B):∃ qo qc mo mc uo uc,cs=[.slice qo c.qs.length qc,.slice mo c.ms.length mc,.slice uo c.us.length uc]:=by
 obtain⟨qo,qc,mo,mc,uo,uc,h1,-⟩:=h.crw;exact⟨qo,qc,mo,mc,uo,uc,h1⟩
theorem FC{m:Mem}(h:vR m=true):(∀ t∈m.t,0<=t/\t<=4096)/\m.t.length<=16:=by
 unfold vR at h;simp only[dB,decide_eq_true_eq,Bool.not_eq_true',List.any_eq_false,Bool.not_eq_true,inB] at h;obtain⟨⟨⟨h1,h2⟩,h3⟩,h4⟩:=h;refine⟨fun t ht=>?_,h2⟩;have:=h3 t ht;simpa [Ld,inB] using this
theorem qP{c:Crw}(h:bG c=true)(hu:c.us.length<=1000):ReckOk c (aW c):=by
 obtain⟨h1,h2,h3,h4,h5,h6⟩:=tL h;refine⟨by unfold aW;rw[eB],fun r hr=>?_,fun x hx=>?_,fun m hm=>?_,by omega,hu⟩
 ·unfold aW at hr
  obtain⟨x,-,rfl⟩:=List.mem_map.1 hr;exact Sy _ _ _
 ·have:=Le (h6 x hx);omega
 ·have:=FC (h5 m hm)
  exact⟨this.1,by omega⟩
end
section
open Go.RowKit Go.Sort Go.Maps
def cM(u:Int)(n:Nat):Bool:=inB u 0 ((n:Int)-1)
theorem oZ{u:Int}{n:Nat}(h:cM u n=true):∃ k:Nat,u=(k:Int)/\k<n:=by
 unfold cM inB at h;simp only[dB,decide_eq_true_eq] at h;exact⟨u.toNat,by omega,by omega⟩
def tM(c:Crw)(u:Int):List Nat:=if (bG c&&cM u c.us.length)=true then iN c (aW c) u.toNat else []
def xB(w w':World)(l:List Nat)(e:Ending):Prop:=(∃ o cap,e = .returned (.slice o l.length cap)/\OwnK w' w.heap.size 1 l.length cap (bE l) o)/\Below w.heap.size w w'
theorem xB.nil{w w':World}{l:List Nat}(h:l=[])(hb:Below w.heap.size w w'):xB w w' l (.returned (.slice none 0 0)):=by
 subst h;exact⟨⟨none,0,rfl,.nil rfl rfl rfl⟩,hb⟩
theorem Zz9(w:World)(c:Crw)(cs:List Value)(B:Nat)(u:Int)(ha:ArgC w c cs B) :
  Calls Tryz.prog 47 #[.agg cs.toArray,.int .i64 u] w fun e w'=>xB w w' (tM c u) e:=by
 have iT:=I (fun W (hW:Below w.heap.size w W)=>Lf W c cs (ha.below hW).crw B (ha.below hW).tab ha.ok);have iC:=ha.nu;have cU:=I (fun(h:bG c=true)=>qP h (by omega));have nM:=I (fun(h:bG c=true)=>tL h);have vD:=I ha;have lE:=ha.ok.nq;have jI:=ha.ok.nm;have bJ:Hid (tM c u=if (bG c&&cM u c.us.length)=true then iN c (aW c) u.toNat else []):=I rfl;generalize tM c u=PA at *;have mZ:Hid (cM u c.us.length=inB u 0 ((c.us.length:Int)-1)):=I rfl;have eZ:=I (fun h=>oZ (u:=u) (n:=c.us.length) h);obtain⟨qo,qc,mo,mc,uo,uc,rfl,dL,cN,dN,-⟩:=ha.crw;have nA:=I (fun W (hW:Below w.heap.size w W)=>cN.below hW);have jJ:=I (fun W (hW:Below w.heap.size w W)=>dN.below hW);unfold Fm at iT;clear ha dL cN dN;generalize eW:c.qs.length=nq at *;generalize cY:c.ms.length=nm at *;generalize dH:c.us.length=nu at *;have wN:=I eW;have fF:=I cY;have dZ:=I dH;clear eW cY dH;generalize iM:bG c=vc at *;have lD:=I iM;clear iM;have X1:=hnw w 26 [.slice qo nq qc,.slice mo nm mc,.slice uo nu uc];have B1:=I (bwA w (.cells #[.slice qo nq qc,.slice mo nm mc,.slice uo nu uc] 26))
 go_enter Tryz.func47,Tryz.ntmps47
 go_upto_region 1 with(fail)
 generalize w.alloc (.cells #[.slice qo nq qc,.slice mo nm mc,.slice uo nu uc] 26)=w1 at *;obtain⟨c0,c1,c2⟩:=X1.o.c3;have cA:=I (iT.o w1 B1.o);clear iT
 go_wp2_with fail
 refine cA.o.mono ?_;intro e w2 hq;obtain⟨aN,b2⟩:=hq;have B2:=B1.tr b2;have X2:=X1.st b2;have mA:Hid (w.heap.size<w2.heap.size):=I X2.o.lt;clear b2 c0 c1 c2 B1 X1 cA
 cases vc with
 | false =>
  rw[if_neg (by decide)] at aN;subst aN;have bK:Hid (PA=[]):=I (by rw[bJ.o];rfl);clear bJ
  go_wp2_with fail
  go_ret;exact xB.nil bK.o B2.o
 | true =>
  rw[if_pos rfl] at aN;obtain⟨A,rfl,hR,-⟩:=aN;have HR:=I hR;have cV:=I (cU.o rfl);clear hR cU;have c2:=X2.o.cell 2 _ rfl;have gB:=I (vQ u 0 ((nu:Int)-1) w2);rw[<- mZ.o] at gB;have ew:IntKind.i64.wrap ((nu:Int)-1)=(nu:Int)-1:=fU _ (by omega);generalize oB:cM u nu=ib at *;have jq:=I oB;clear oB
  go_wp2_with fail
  refine gB.o.mono ?_;rintro e w3 ⟨rfl,rfl⟩;clear gB c2
  cases ib with
  | false =>
   have bK:Hid (PA=[]):=I (by rw[bJ.o];rfl);clear bJ
   go_wp2_with fail
   go_ret;exact xB.nil bK.o B2.o
  | true =>
   obtain⟨k,rfl,hk⟩:=eZ.o rfl;have bK:Hid (PA=iN c (aW c) k):=I (by rw[bJ.o];rfl);have gP:=I (oy w2 A c (bS c) (aW c) k HR.o cV.o (by rw[dZ.o];exact hk));clear bJ;rw[<- bK.o] at gP
   go_wp2_with fail
   refine gP.o.mono ?_;rintro e w3 ⟨⟨o,cap,rfl,ho⟩,b3⟩;have HO:=I (ho.low (B':=w.heap.size) B2.o.size);have B3:=B2.tr b3;clear ho b3 gP
   go_wp2_with fail
   go_ret;exact⟨⟨o,cap,rfl,HO.o⟩,B3.o⟩
end
section
open Go.RowKit Go.Sort Go.Maps
def pA(c:Crw)(u m:Int):Bool:=bG c&&cM u c.us.length&&cM m c.ms.length
def Tc(w w':World)(c:Crw)(u m:Int)(e:Ending):Prop:=Below w.heap.size w w'/\if pA c u m=true then ∃ X,e = .returned (.tuple #[.pointer (some ⟨X,0,none⟩),.bool true])/\fG w' X c (bS c) (bV c (aW c) u.toNat m.toNat) else e = .returned (.tuple #[.pointer none,.bool false])
theorem YF{c:Crw}{u m:Int}(h:pA c u m=true):bG c=true/\∃ k j:Nat,u=(k:Int)/\m=(j:Int)/\k<c.us.length/\j<c.ms.length:=by
 unfold pA at h;simp only[dB] at h;obtain⟨⟨h1,h2⟩,h3⟩:=h;obtain⟨k,e1,hk⟩:=oZ h2;obtain⟨j,e2,hj⟩:=oZ h3;exact⟨h1,k,j,e1,e2,hk,hj⟩
theorem YG(w:World)(c:Crw)(cs:List Value)(B:Nat)(u m:Int)(ha:ArgC w c cs B) :
  Calls Tryz.prog 118 #[.agg cs.toArray,.int .i64 u,.int .i64 m] w fun e w'=>Tc w w' c u m e:=by
 have iT:=I (fun W (hW:Below w.heap.size w W)=>Lf W c cs (ha.below hW).crw B (ha.below hW).tab ha.ok);have iC:=ha.nu;have cU:=I (fun(h:bG c=true)=>qP h (by omega));have nM:=I (fun(h:bG c=true)=>tL h);have vD:=I ha;have lE:=ha.ok.nq;have jI:=ha.ok.nm;have bJ:Hid (pA c u m=(bG c&&cM u c.us.length&&cM m c.ms.length)):=I rfl;have tP:Hid (∀ w' e,pA c u m=false->Below w.heap.size w w'->e = .returned (.tuple #[.pointer none,.bool false])->Tc w w' c u m e):=I (fun w' e h hb he=>by unfold Tc;rw[h];exact⟨hb,he⟩)
 have Qq:Hid (∀ w' X (k j:Nat),u=(k:Int)->m=(j:Int)->pA c u m=true->Below w.heap.size w w'->fG w' X c (bS c) (bV c (aW c) k j)->Tc w w' c u m (.returned (.tuple #[.pointer (some ⟨X,0,none⟩),.bool true]))):=I (fun w' X k j h1 h2 h hb he=>by
  unfold Tc;rw[h,h1,h2];exact⟨hb,X,rfl,he⟩)
 generalize pA c u m=PA at *;have mZ:Hid (cM u c.us.length=inB u 0 ((c.us.length:Int)-1)):=I rfl;have eZ:=I (fun h=>oZ (u:=u) (n:=c.us.length) h);have G5:Hid (cM m c.ms.length=inB m 0 ((c.ms.length:Int)-1)):=I rfl;have G6:=I (fun h=>oZ (u:=m) (n:=c.ms.length) h);obtain⟨qo,qc,mo,mc,uo,uc,rfl,dL,cN,dN,-⟩:=ha.crw;have nA:=I (fun W (hW:Below w.heap.size w W)=>cN.below hW);have jJ:=I (fun W (hW:Below w.heap.size w W)=>dN.below hW);unfold Fm at iT;clear ha dL cN dN;generalize eW:c.qs.length=nq at *;generalize cY:c.ms.length=nm at *;generalize dH:c.us.length=nu at *;have wN:=I eW;have fF:=I cY;have dZ:=I dH;clear eW cY dH;generalize iM:bG c=vc at *;have lD:=I iM;clear iM;have X1:=hnw w 26 [.slice qo nq qc,.slice mo nm mc,.slice uo nu uc];have B1:=I (bwA w (.cells #[.slice qo nq qc,.slice mo nm mc,.slice uo nu uc] 26))
 go_enter Tryz.func118,Tryz.ntmps118
 go_upto_region 1 with(fail)
 generalize w.alloc (.cells #[.slice qo nq qc,.slice mo nm mc,.slice uo nu uc] 26)=w1 at *;obtain⟨c0,c1,c2⟩:=X1.o.c3;have cA:=I (iT.o w1 B1.o);clear iT
 go_wp2_with fail
 refine cA.o.mono ?_;intro e w2 hq;obtain⟨aN,b2⟩:=hq;have B2:=B1.tr b2;have X2:=X1.st b2;have mA:Hid (w.heap.size<w2.heap.size):=I X2.o.lt;clear b2 c0 c1 c2 B1 X1 cA
 cases vc with
 | false =>
  rw[if_neg (by decide)] at aN;subst aN;have bK:Hid (PA=false):=I (by rw[bJ.o];rfl);clear bJ
  go_wp2_with fail
  go_ret2
  exact tP.o _ _ bK.o B2.o rfl
 | true =>
  rw[if_pos rfl] at aN;obtain⟨A,rfl,hR,-⟩:=aN;have HR:=I hR;have cV:=I (cU.o rfl);clear hR cU;have c2:=X2.o.cell 2 _ rfl;have c1:=X2.o.cell 1 _ rfl;have gB:=I (vQ u 0 ((nu:Int)-1) w2);have vi:=I (vQ m 0 ((nm:Int)-1) w2);rw[<- mZ.o] at gB;rw[<- G5.o] at vi;have ew:IntKind.i64.wrap ((nu:Int)-1)=(nu:Int)-1:=fU _ (by omega);have Xo:IntKind.i64.wrap ((nm:Int)-1)=(nm:Int)-1:=fU _ (by omega);generalize oB:cM u nu=ib at *;have jq:=I oB;clear oB;generalize JZ:cM m nm=jb at *;have HJB:=I JZ;clear JZ
  go_wp2_with fail
  refine gB.o.mono ?_;rintro e w3 ⟨rfl,rfl⟩;clear gB
  cases ib with
  | false =>
   have bK:Hid (PA=false):=I (by rw[bJ.o];rfl);clear bJ
   go_wp2_with fail
   go_ret2
   exact tP.o _ _ bK.o B2.o rfl
  | true =>
   go_wp2_with fail
   refine vi.o.mono ?_;rintro e w3 ⟨rfl,rfl⟩;clear vi c1 c2
   cases jb with
   | false =>
    have bK:Hid (PA=false):=I (by rw[bJ.o];rfl);clear bJ
    go_wp2_with fail
    go_ret2
    exact tP.o _ _ bK.o B2.o rfl
   | true =>
    obtain⟨k,Mp,hk⟩:=eZ.o (by first | rfl | trivial);obtain⟨j,vj,hj⟩:=G6.o (by first | rfl | trivial);have bK:Hid (PA=true):=I (by rw[bJ.o];rfl);have G7:=I Mp;have G9:=I vj;rw[Mp,vj];have gP:=I (EQ w2 A c (bS c) (aW c) k j HR.o (by rw[cV.o.len,dZ.o];exact hk) (by rw[fF.o];exact hj) cV.o.row (by rw[cV.o.len,dZ.o];omega) (by rw[fF.o];omega));clear bJ Mp vj
    go_wp2_with fail
    refine gP.o.mono ?_;rintro e w3 ⟨X,rfl,hX,-,b3⟩;have HX:=I hX;have B3:=B2.tr b3;clear hX b3 gP
    go_wp2_with fail
    go_ret2
    exact Qq.o _ X k j G7.o G9.o bK.o B3.o HX.o
def Nx(w w':World)(c:Crw)(u m:Int)(e:Ending):Prop:=Below w.heap.size w w' /\
 if (pA c u m&&gD (aR c (bV c (aW c) u.toNat m.toNat)))=true then ∃ o cap,e = .returned (.tuple #[.slice o (fO c c.us.length 0 (bV c (aW c) u.toNat m.toNat) []).length cap,.bool true])/\OwnK w' w.heap.size 1 (fO c c.us.length 0 (bV c (aW c) u.toNat m.toNat) []).length cap (bE (fO c c.us.length 0 (bV c (aW c) u.toNat m.toNat) [])) o
 else e = .returned (.tuple #[.slice none 0 0,.bool false])
theorem YH{c:Crw}{u m:Int}(h:pA c u m=true)(hu:c.us.length<=999):ReckOk c (bV c (aW c) u.toNat m.toNat):=(qP (YF h).1 (by omega)).fix _ _
theorem Z2i(w:World)(c:Crw)(cs:List Value)(B:Nat)(u m:Int)(ha:ArgC w c cs B) :
  Calls Tryz.prog 49 #[.agg cs.toArray,.int .i64 u,.int .i64 m] w fun e w'=>Nx w w' c u m e:=by
 have jH:=I (fun W (hW:Below w.heap.size w W)=>YG W c cs B u m (ha.below hW));unfold Tc at jH;have vD:=I ha;have iC:=ha.nu;have tP:Hid (∀ w' e,pA c u m=false->Below w.heap.size w w'->e = .returned (.tuple #[.slice none 0 0,.bool false])->Nx w w' c u m e):=I (fun w' e h hb he=>by unfold Nx;rw[h];exact⟨hb,he⟩)
 have Qq:Hid (∀ w2 w' e,pA c u m=true->Below w.heap.size w w2->vS w2 c (bV c (aW c) u.toNat m.toNat) e w'->Nx w w' c u m e):=I (fun w2 w' e h hb he=>by
  obtain⟨h1,h2⟩:=he;refine⟨hb.trans (h1.mono hb.size),?_⟩;rw[h,cH];by_cases hf:gD (aR c (bV c (aW c) u.toNat m.toNat))=true
  ·rw[if_pos hf] at h2 ⊢
   obtain⟨o,cap,h3,h4⟩:=h2;exact⟨o,cap,h3,h4.low hb.size⟩
  ·rw[if_neg hf] at h2 ⊢
   exact h2)
 have cU:=I (fun(h:pA c u m=true)=>YH h iC)
 have Mq:Hid (∀ e w2 w',vS w2 c (bV c (aW c) u.toNat m.toNat) e w'->(∃ a b,e = .returned (.tuple #[a,b])) ):=I (fun e w2 w' he=>by
  obtain⟨h1,h2⟩:=he;by_cases hf:gD (aR c (bV c (aW c) u.toNat m.toNat))=true
  ·rw[if_pos hf] at h2
   obtain⟨o,cap,h3,h4⟩:=h2;exact⟨_,_,h3⟩
  ·rw[if_neg hf] at h2
   exact⟨_,_,h2⟩)
 generalize pA c u m=PA at *;obtain⟨qo,qc,mo,mc,uo,uc,rfl⟩:=ha.form;clear ha;generalize eW:c.qs.length=nq at *;generalize cY:c.ms.length=nm at *;generalize dH:c.us.length=nu at *;have fF:=I cY;have dZ:=I dH;clear eW cY dH;have X1:=hnw w 26 [.slice qo nq qc,.slice mo nm mc,.slice uo nu uc];have B1:=I (bwA w (.cells #[.slice qo nq qc,.slice mo nm mc,.slice uo nu uc] 26))
 go_enter Tryz.func49,Tryz.ntmps49
 go_upto_region 1 with(fail)
 generalize w.alloc (.cells #[.slice qo nq qc,.slice mo nm mc,.slice uo nu uc] 26)=w1 at *;obtain⟨c0,c1,c2⟩:=X1.o.c3;have cA:=I (jH.o w1 B1.o);clear jH
 go_wp2_with fail
 refine cA.o.mono ?_;intro e w2 hq;obtain⟨b2,aN⟩:=hq;have B2:=B1.tr b2;clear b2 c0 c1 c2 B1 X1 cA
 cases PA with
 | false =>
  rw[if_neg (by decide)] at aN;subst aN
  go_wp2_with fail
  go_ret2
  exact tP.o _ _ (by first | rfl | trivial) B2.o rfl
 | true =>
  rw[if_pos rfl] at aN;obtain⟨X,rfl,hX⟩:=aN;have rY:=I (YA w2 X c (bS c) (bV c (aW c) u.toNat m.toNat) hX (cU.o (by first | rfl | trivial)));clear hX cU
  go_wp2_with fail
  refine rY.o.mono ?_;intro e w3 hq;have HQ:=I (Qq.o w2 w3 e (by first | rfl | trivial) B2.o hq);obtain⟨a,b,rfl⟩:=Mq.o e w2 w3 hq;clear hq rY Qq tP Mq
  go_wp2_with fail
  go_ret2
  exact HQ.o
end
section
open Go.RowKit Go.Sort Go.Maps
def IlE(w:World)(P:Nat->Prop)(c:List Int)(vs:List Value):Prop:=∃ ao cap,vs=[.slice ao c.length cap]/\(c=[]\/∃ g off,ao=some ⟨g,off,none⟩/\P g/\g<w.heap.size/\dD w g off (c.flatMap aZ))
theorem IlE.keeps:Vu IlE:=fun w w' P P' c vs hb hs hP ⟨ao,cap,hv,hk⟩=>⟨ao,cap,hv,by
 rcases hk with hk | ⟨g,off,h1,h2,h3,h4⟩
 ·exact .inl hk
 ·exact .inr ⟨g,off,h1,hP g h2 h3,gR h3 hs,h4.of_block (hb g h2 h3)⟩⟩
def sF(w:World)(rows:List (List Int))(ao:Option Addr):Prop:=rows=[]\/∃ g off,ao=some ⟨g,off,none⟩/\g<w.heap.size/\∀ i row,rows[i]?=some row->∃ bo bc,w.cell? ⟨g,off+i,none⟩=some (.slice bo row.length bc)/\aY aZ w bo row
theorem sF.below{w w':World}{rows:List (List Int)}{ao:Option Addr}(h:sF w rows ao)(hb:Below w.heap.size w w'):sF w' rows ao:=by
 rcases h with h | ⟨g,off,h1,h2,h3⟩
 ·exact .inl h
 ·refine .inr ⟨g,off,h1,gR h2 hb.size,fun i row hi=>?_⟩
  obtain⟨bo,bc,h4,h5⟩:=h3 i row hi;exact⟨bo,bc,by rw[rJ (w:=w) (a:=⟨g,off+i,none⟩) (hb.block g h2)];exact h4,h5.below hb⟩
theorem sF.at{w:World}{rows:List (List Int)}{ao:Option Addr}(h:sF w rows ao)(i:Nat)(row:List Int)(hi:rows[i]?=some row):∃ g off bo bc,ao=some ⟨g,off,none⟩/\g<w.heap.size/\w.cell? ⟨g,off+i,none⟩=some (.slice bo row.length bc)/\aY aZ w bo row:=by
 rcases h with h | ⟨g,off,h1,h2,h3⟩
 ·rw[h] at hi;simp at hi
 ·obtain⟨bo,bc,h4,h5⟩:=h3 i row hi
  exact⟨g,off,bo,bc,h1,h2,h4,h5⟩
theorem RowM.rowsI{base lo n cp:Nat}{w:World}{bad:Nat->Prop}{ao:Option Addr}{rows:List (List Int)}{vss:List (List Value)}(h:RowM IlE 1 base w lo bad ao n cp rows vss):sF w rows ao:=by
 rcases Nat.eq_zero_or_pos rows.length with h0 | h0
 ·exact .inl (List.eq_nil_of_length_eq_zero h0)
 ·obtain⟨g,off,vs,h1,h2,-⟩:=h.at 0 rows[0] (aL h0)
  refine .inr ⟨g,off,h1,h2,fun i row hi=>?_⟩;obtain⟨g',off',vs',kM,Pn,-,-,-,Cb,bo,bc,rfl,h5⟩:=h.at i row hi;rw[h1] at kM;cases kM;have:=Cb 0 _ rfl;rw[Nat.mul_one,Nat.add_zero] at this;refine⟨bo,bc,this,?_⟩;rcases h5 with h6 | ⟨g2,off2,h6,-,h7,h8⟩
  ·exact .inl h6
  ·exact .inr ⟨g2,off2,h6,h7,h8⟩
theorem pd(l:List Nat):(l.map Int.ofNat).length=l.length:=eB _
theorem YI{w:World}{B cap:Nat}{l:List Nat}{ao:Option Addr}(h:OwnK w B 1 l.length cap (bE l) ao)(P:Nat->Prop)(hP:∀ g,B<=g->P g):IlE w P (l.map Int.ofNat) [.slice ao l.length cap]:=by
 refine⟨ao,cap,by rw[pd],?_⟩;rw[ox] at h;rcases h.flatR jN (pd l).symm with h1 | ⟨g,off,h1,h2,h3⟩
 ·exact .inl h1
 ·exact .inr ⟨g,off,h1,hP g (h.blk_lt (by rw[h1];rfl)).1,h2,h3⟩
def iW(c:Crw):List (List Int):=if bG c=true then(List.range c.us.length).map (fun u=>(iN c (aW c) u).map Int.ofNat) else []
def Ny(w w':World)(c:Crw)(e:Ending):Prop:=(∃ o cap,e = .returned (.slice o (iW c).length cap)/\sF w' (iW c) o)/\Below w.heap.size w w'
theorem YJ:(Tryz.prog.info? 33).map (fun i=>(i.zero,i.size,i.bytes))=some (some (.slice none 0 0),1,24):=by kernel_rfl
theorem FF(w:World)(c:Crw)(cs:List Value)(B:Nat)(ha:ArgC w c cs B) :
  Calls Tryz.prog 24 #[.agg cs.toArray] w fun e w'=>Ny w w' c e:=by
 have iT:=I (fun W (hW:Below w.heap.size w W)=>Lf W c cs (ha.below hW).crw B (ha.below hW).tab ha.ok);have iC:=ha.nu;have cU:=I (fun(h:bG c=true)=>qP h (by omega));have nM:=I (fun(h:bG c=true)=>tL h);have vD:=I ha;have lE:=ha.ok.nq;have jI:=ha.ok.nm;have bJ:Hid (iW c=if bG c=true then(List.range c.us.length).map (fun u=>(iN c (aW c) u).map Int.ofNat) else []):=I rfl;have iB:Hid (∀ w' o cap,Below w.heap.size w w'->sF w' (iW c) o->Ny w w' c (.returned (.slice o (iW c).length cap))):=I (fun w' o cap hb h=>⟨⟨o,cap,rfl,h⟩,hb⟩);generalize iW c=PA at *;obtain⟨qo,qc,mo,mc,uo,uc,rfl,dL,cN,dN,-⟩:=ha.crw;have nA:=I (fun W (hW:Below w.heap.size w W)=>cN.below hW);have jJ:=I (fun W (hW:Below w.heap.size w W)=>dN.below hW);unfold Fm at iT;clear ha dL cN dN;generalize eW:c.qs.length=nq at *;generalize cY:c.ms.length=nm at *;generalize dH:c.us.length=nu at *;have wN:=I eW;have fF:=I cY;have dZ:=I dH;clear eW cY dH;generalize iM:bG c=vc at *;have lD:=I iM;clear iM;have X1:=hnw w 26 [.slice qo nq qc,.slice mo nm mc,.slice uo nu uc];have B1:=I (bwA w (.cells #[.slice qo nq qc,.slice mo nm mc,.slice uo nu uc] 26))
 go_enter Tryz.func24,Tryz.ntmps24
 go_upto_region 1 with(fail)
 generalize w.alloc (.cells #[.slice qo nq qc,.slice mo nm mc,.slice uo nu uc] 26)=w1 at *;obtain⟨c0,c1,c2⟩:=X1.o.c3;have cA:=I (iT.o w1 B1.o);clear iT
 go_wp2_with fail
 refine cA.o.mono ?_;intro e w2 hq;obtain⟨aN,b2⟩:=hq;have B2:=B1.tr b2;have X2:=X1.st b2;have mA:Hid (w.heap.size<w2.heap.size):=I X2.o.lt;clear b2 c0 c1 c2 B1 X1 cA
 cases vc with
 | false =>
  rw[if_neg (by decide)] at aN;subst aN;have bK:Hid (PA=[]):=I (by rw[bJ.o];rfl);clear bJ
  go_wp2_with fail
  go_ret;rw[bK.o] at iB;exact iB.o _ none 0 B2.o (.inl rfl)
 | true =>
  rw[if_pos rfl] at aN;obtain⟨A,rfl,hR,-⟩:=aN;have HR:=I hR;have cV:=I (cU.o rfl);clear hR cU;have bK:Hid (PA=(List.range nu).map (fun u=>(iN c (aW c) u).map Int.ofNat)):=I (by rw[bJ.o,if_pos rfl]);have gP:=I (fun W (hW:Below w2.heap.size w2 W) k (hk:k<nu)=>oy W A c (bS c) (aW c) k (HR.o.below hW) cV.o (by rw[dZ.o];exact hk));have c2:=X2.o.cell 2 _ rfl;clear bJ HR
  go_wp2_with fail
  clear c2;have Gr:=I (aG w2.heap.size w2);obtain⟨wz,Gq⟩:=exq (w2);rw[Gq] at gP B2 Gr ⊢;clear Gq mA X2;have R2:Hid (RowM IlE 1 wz.heap.size wz wz.heap.size (fun _=>False) none 0 0 (PA.take 0) []):=I (by rw[List.take_zero];exact RowM.nil _ _ _)
  go_loopw [16,2] (fun kv ov wr=>∃ (k:Nat) (o:Option Addr) (cap:Nat) (vss:List (List Value)),kv = .int .i64 k/\ov = .slice o k cap/\k<=nu/\Hid (RowM IlE 1 wz.heap.size wr wz.heap.size (fun _=>False) o k cap (PA.take k) vss)/\Hid (Below wz.heap.size wz wr)) (fun k _ _=>(nu-intOf k).toNat)
  case atStart=>exact⟨0,none,0,[],rfl,rfl,by omega,R2,Gr⟩
  case round =>
   clear R2 Gr;obtain⟨k,o,cap,vss,rfl,rfl,hk,R3,B3⟩:=hrel;have e2:=w1i k (by omega);by_cases bT:k<nu
   ·have kk:(k:Int)<nu:=by omega
    have nO:=I (gP.o wr B3.o k bT);have dM:Hid (PA.take (k+1)=PA.take k++[(iN c (aW c) k).map Int.ofNat]):=I (by rw[lN,bK.o,dK,List.getElem?_range bT];rfl);have Lt:Hid (∀ g,blk o=some g->g<wr.heap.size):=I (fun g hg=>(R3.o.own.blk_lt hg).2);generalize iN c (aW c) k=PK at *
    go_wp2_with fail
    refine nO.o.mono ?_;rintro e w3 ⟨⟨po,pc,rfl,ho⟩,b3⟩;have E4:Hid (IlE w3 (fun g=>wr.heap.size<=g) (PK.map Int.ofNat) [.slice po PK.length pc]):=I (YI ho _ (fun g hg=>hg));have R4:=I (R3.o.step IlE.keeps b3);have B4:=B3.tr b3;have Cu:=I B3.o.size;clear ho b3 nO R3 B3
    go_upto_region 8 with(at_builtin;refine jM 36 33 (.slice none 0 0) 1 24 Tryz.underlying36 YJ rfl (by omega) (by omega) w3 wz.heap.size rfl (.tmp 19) (.tmp 23) rfl o cap k vss.flatten ?q1 R4.o.own B4.o.size 1 1 #[.slice po PK.length pc] 33 ?q2 rfl (by omega) ?q3 ?q4 ?_;(case q1=>rfl);(case q2=>rfl);(case q3=>intro u hu;simp at hu;subst hu;rfl);(case q4=>omega);intro g5 off5 c5 wa o8 aX b8 bW;have R8:=I (RowM.add IlE.keeps R4.o Lt.o Cu.o (fun g hg=>hg.elim) E4.o rfl o8 aX bW);have B8:=I (B4.o.trans b8);clear o8 aX b8 bW)
    go_wp2_with fail
    go_roundw
    case rel=>exact⟨k+1,_,_,_,by go_num,rfl,by omega,I (by rw[dM.o];exact R8.o),B8⟩
    case measure=>simp only[intOf];omega
   ·have kk:¬ (k:Int)<nu:=by omega
    obtain rfl:nu=k:=by omega
    have gO:Hid (PA.length=nu):=I (by rw[bK.o,eB,List.length_range]);have dM:Hid (PA.take nu=PA):=I (List.take_of_length_le (by rw[gO.o];exact aO _))
    go_wp2_with fail
    go_ret;have key:=iB.o wr o cap (B2.o.trans (B3.o.mono B2.o.size)) (by have:=R3.o.rowsI;rwa [dM.o] at this);rw[gO.o] at key;exact key
end
section
open Go.RowKit Go.Sort Go.Maps
def yO(l:List Int):Int:=if l.length=1 then l.getD 0 0 else -1
def vT(c:Crw):List Int:=(iW c).map yO
def Wi(w w':World)(l:List Int)(e:Ending):Prop:=(∃ o cap,e = .returned (.slice o l.length cap)/\OwnK w' w.heap.size 1 l.length cap (l.flatMap aZ) o)/\Below w.heap.size w w'
theorem YK(w:World)(c:Crw)(cs:List Value)(B:Nat)(ha:ArgC w c cs B) :
  Calls Tryz.prog 62 #[.agg cs.toArray] w fun e w'=>Wi w w' (vT c) e:=by
 have sY:=I (fun W (hW:Below w.heap.size w W)=>FF W c cs B (ha.below hW))
 have Cw:Hid ((iW c).length<=999):=I (by
  unfold iW;split
  ·rw[eB,List.length_range];exact ha.nu
  ·exact Nat.zero_le _)
 have eX:Hid (∀ l∈iW c,l.length<=1000000):=I (fun l hl=>by
  unfold iW at hl
  split at hl
  ·obtain⟨u,-,rfl⟩:=List.mem_map.1 hl
   rw[pd];have h1:=Ta (lJ c (aW c) u) c.ms.length;have:=ha.ok.nm;unfold iN;omega
  ·cases hl)
 unfold Ny at sY;have Yw:Hid (vT c=(iW c).map yO):=I rfl;obtain⟨qo,qc,mo,mc,uo,uc,rfl⟩:=ha.form;clear ha;generalize vT c=NF at *;generalize iW c=SF at *;have X1:=hnw w 26 [.slice qo c.qs.length qc,.slice mo c.ms.length mc,.slice uo c.us.length uc];have B1:=I (bwA w (.cells #[.slice qo c.qs.length qc,.slice mo c.ms.length mc,.slice uo c.us.length uc] 26));generalize c.qs.length=nq at *;generalize c.ms.length=nm at *;generalize c.us.length=nu at *;have iB:Hid (∀ w' o cap n,NF.length=n->Below w.heap.size w w'->OwnK w' w.heap.size 1 n cap (NF.flatMap aZ) o->Wi w w' NF (.returned (.slice o n cap))):=I (fun w' o cap n hn hb h=>by subst hn;exact⟨⟨o,cap,rfl,h⟩,hb⟩);generalize Cx:SF.length=ns at *;have zF:=I Cx;clear Cx
 go_enter Tryz.func62,Tryz.ntmps62
 go_upto_region 1 with(fail)
 generalize w.alloc (.cells #[.slice qo nq qc,.slice mo nm mc,.slice uo nu uc] 26)=w1 at *;obtain⟨c0,c1,c2⟩:=X1.o.c3;have cA:=I (sY.o w1 B1.o);clear sY
 go_wp2_with fail
 refine cA.o.mono ?_;rintro e w2 ⟨⟨so,sc,rfl,hs⟩,b2⟩;have B2:=B1.tr b2;have oQ:=I (fun W (hW:Below w2.heap.size w2 W)=>hs.below hW);have rD:=Cw.o;clear b2 c0 c1 c2 B1 X1 cA hs
 go_wp2_with fail
 go_loopw [8,2] (fun kv ov wr=>∃ (k:Nat) (o:Option Addr) (cap:Nat),kv = .int .i64 k/\ov = .slice o k cap/\k<=ns/\Hid (OwnK wr w2.heap.size 1 k cap ((NF.take k).flatMap aZ) o)/\Hid (Below w2.heap.size w2 wr)) (fun k _ _=>(ns-intOf k).toNat)
 case atStart=>exact⟨0,none,0,rfl,rfl,by omega,I (.nil rfl rfl rfl),I (aG _ _)⟩
 case round =>
  obtain⟨k,o,cap,rfl,rfl,hk,O3,B3⟩:=hrel;have e2:=w1i k (by omega);by_cases bT:k<ns
  ·have kk:(k:Int)<ns:=by omega
   obtain⟨row,aS⟩:∃ y,SF[k]?=some y:=⟨_,aL (by rw[zF.o];exact bT)⟩;obtain⟨g,off,bo,bc,Mr,hg,dG,jZ⟩:=(oQ.o wr B3.o).at k row aS;have dM:Hid (NF.take (k+1)=NF.take k++[yO row]):=I (by rw[lN,Yw.o,dK,aS];rfl);have gC:=eX.o row (bU aS);subst Mr;by_cases h1:row.length=1
   ·have pK:Hid ([yO row].flatMap aZ=[.int .i64 (row.getD 0 0)]):=I (by unfold yO;rw[if_pos h1];rfl)
    obtain⟨g2,off2,dE,qF,aH⟩:∃ g off,bo=some ⟨g,off,none⟩/\g<wr.heap.size/\dD wr g off (row.flatMap aZ):=by
     rcases jZ with h | h
     ·rw[h] at h1;simp at h1
     ·exact h
    subst dE
    have rO:wr.cell? ⟨g2,off2,none⟩=some (.int .i64 (row.getD 0 0)):=by
     have:=aH 0 (.int .i64 (row.getD 0 0)) (by
      obtain⟨x,hx⟩:=List.length_eq_one_iff.1 h1
      rw[hx];rfl)
     rwa [Nat.add_zero] at this
    rw[h1] at dG;generalize row.getD 0 0=x0 at *;clear aS jZ h1 aH gC;have ee:(1:Int)=1:=rfl
    go_upto_region 7 with(at_builtin;refine jM 33 3 (.int .i64 0) 1 8 Tryz.underlying33 sE rfl (by omega) (by omega) wr w2.heap.size rfl (.tmp 15) (.tmp 19) rfl o cap k ((NF.take k).flatMap aZ) ?q1 O3.o B3.o.size 1 1 #[.int .i64 x0] 3 ?q2 rfl (by omega) ?q3 ?q4 ?_;(case q1=>rfl);(case q2=>rfl);(case q3=>simp[Value.oneCell']);(case q4=>omega);intro g5 off5 c5 wa o8 aX b8 bW;have O8:=I o8;have B8:=I (B3.o.trans b8);clear o8 aX b8 bW)
    go_wp2_with fail
    go_roundw
    case rel=>exact⟨k+1,_,_,by go_num,rfl,by omega,I (by rw[dM.o,List.flatMap_append,pK.o];exact O8.o),B8⟩
    case measure=>simp only[intOf];omega
   ·have pK:Hid ([yO row].flatMap aZ=[.int .i64 (-1)]):=I (by unfold yO;rw[if_neg h1];rfl)
    have ne:¬ ((row.length:Nat):Int)=1:=by omega
    generalize row.length=rl at *;clear aS jZ
    go_upto_region 7 with(at_builtin;refine jM 33 3 (.int .i64 0) 1 8 Tryz.underlying33 sE rfl (by omega) (by omega) wr w2.heap.size rfl (.tmp 21) (.tmp 22) rfl o cap k ((NF.take k).flatMap aZ) ?q1 O3.o B3.o.size 1 1 #[.int .i64 (-1)] 3 ?q2 rfl (by omega) ?q3 ?q4 ?_;(case q1=>rfl);(case q2=>rfl);(case q3=>simp[Value.oneCell']);(case q4=>omega);intro g5 off5 c5 wa o8 aX b8 bW;have O8:=I o8;have B8:=I (B3.o.trans b8);clear o8 aX b8 bW)
    go_wp2_with fail
    go_roundw
    case rel=>exact⟨k+1,_,_,by go_num,rfl,by omega,I (by rw[dM.o,List.flatMap_append,pK.o];exact O8.o),B8⟩
    case measure=>simp only[intOf];omega
  ·have kk:¬ (k:Int)<ns:=by omega
   obtain rfl:ns=k:=by omega
   have sZ:Hid (NF.length=ns):=I (by rw[Yw.o,eB,zF.o]);have dM:Hid (NF.take ns=NF):=I (List.take_of_length_le (by rw[sZ.o];exact aO _))
   go_wp2_with fail
   go_ret;have ho:=O3.o.low (B':=w.heap.size) B2.o.size;rw[dM.o] at ho;exact iB.o wr o cap ns sZ.o (B2.o.trans (B3.o.mono B2.o.size)) ho
end
section
open Go.RowKit Go.Sort Go.Maps
def Lh(c:Crw)(x:Use)(k:Int):Bool:=bG c&&nG c.qs.length c.ms.length x&&cM k c.ms.length&&(eY c (bS c) x).getD k.toNat false
theorem Td{c:Crw}:(bS c).length=c.qs.length:=by unfold bS;rw[eB]
theorem Wj{c:Crw}:∀ r∈bS c,r.length=c.ms.length:=fun r hr=>by
 unfold bS at hr;obtain⟨p,-,rfl⟩:=List.mem_map.1 hr;rw[eB]
theorem Ht(w:World)(t t':TypeId)(a b:List Value):aC ((w.alloc (.cells a.toArray t)).alloc (.cells b.toArray t')) w.heap.size t a/\aC ((w.alloc (.cells a.toArray t)).alloc (.cells b.toArray t')) (w.heap.size+1) t' b/\Below w.heap.size w ((w.alloc (.cells a.toArray t)).alloc (.cells b.toArray t')) :=
 ⟨(aC.new w t a).step ((aG _ _).alloc (aO _) _),aC.newAt _ _ _ _ (by rw[eH]),((aG _ _).alloc (aO _) _).alloc (by rw[eH];omega) _⟩
theorem Z0a(w:World)(c:Crw)(cs:List Value)(B:Nat)(x:Use)(k:Int)(ha:ArgC w c cs B) :
  Calls Tryz.prog 51 #[.agg cs.toArray,.agg (cQ x).toArray,.int .i64 k] w fun e w'=>e = .returned (.bool (Lh c x k))/\Below w.heap.size w w':=by
 have iT:=I (fun W (hW:Below w.heap.size w W)=>Lf W c cs (ha.below hW).crw B (ha.below hW).tab ha.ok);have iC:=ha.nu;have cU:=I (fun(h:bG c=true)=>qP h (by omega));have nM:=I (fun(h:bG c=true)=>tL h);have vD:=I ha;have lE:=ha.ok.nq;have jI:=ha.ok.nm;have bJ:Hid (Lh c x k=(bG c&&nG c.qs.length c.ms.length x&&cM k c.ms.length&&(eY c (bS c) x).getD k.toNat false)):=I rfl;generalize Lh c x k=PA at *;have mZ:Hid (cM k c.ms.length=inB k 0 ((c.ms.length:Int)-1)):=I rfl;have eZ:=I (fun h=>oZ (u:=k) (n:=c.ms.length) h);have H0:=I (fun h=>Le (nq:=c.qs.length) (nm:=c.ms.length) (x:=x) h);have pL:=I (fun W qo mo uo qc mc uc=>EB W qo mo uo c.qs.length c.ms.length c.us.length qc mc uc x (by omega) (by omega));have mD:=I (fun W A (h:fG W A c (bS c) (aW c)) (h1:0<=x.q) (h2:x.q.toNat<c.qs.length)=>EN W A c (bS c) (aW c) x h h1 (by rw[Td];exact h2) Wj jI);have vk:Hid ((eY c (bS c) x).length=c.ms.length):=I (Sy _ _ _);generalize eY c (bS c) x=RX at *;obtain⟨qo,qc,mo,mc,uo,uc,rfl,dL,cN,dN,-⟩:=ha.crw;have nA:=I (fun W (hW:Below w.heap.size w W)=>cN.below hW);have jJ:=I (fun W (hW:Below w.heap.size w W)=>dN.below hW);unfold Fm at iT;clear ha dL cN dN;generalize eW:c.qs.length=nq at *;generalize cY:c.ms.length=nm at *;generalize dH:c.us.length=nu at *;have wN:=I eW;have fF:=I cY;have dZ:=I dH;clear eW cY dH;generalize iM:bG c=vc at *;have lD:=I iM;clear iM;have mX:Hid (cQ x=[.int .i64 x.q,.int .i64 x.w,.int .i64 x.f,.int .i64 x.h]):=I rfl;generalize nG nq nm x=vu at *;rw[mX.o] at pL mD ⊢;obtain⟨X1,U1,B1⟩:=Ht w 26 39 [.slice qo nq qc,.slice mo nm mc,.slice uo nu uc] [.int .i64 x.q,.int .i64 x.w,.int .i64 x.f,.int .i64 x.h];have X1:=I X1;have U1:=I U1;have B1:=I B1;clear mX;generalize x.w=x1 at *;generalize x.f=x2 at *;generalize x.h=x3 at *;generalize mG:x.q=x0 at *;clear mG
 go_enter Tryz.func51,Tryz.ntmps51
 go_upto_region 1 with(fail)
 generalize (w.alloc (.cells #[.slice qo nq qc,.slice mo nm mc,.slice uo nu uc] 26)).alloc (.cells #[.int .i64 x0,.int .i64 x1,.int .i64 x2,.int .i64 x3] 39)=w1 at *;obtain⟨c0,c1,c2⟩:=X1.o.c3;have cA:=I (iT.o w1 B1.o);clear iT
 go_wp2_with fail
 refine cA.o.mono ?_;intro e w2 hq;obtain⟨aN,b2⟩:=hq;have B2:=B1.tr b2;have X2:=X1.st b2;have U2:=I (U1.o.step b2);have mA:Hid (w.heap.size<w2.heap.size):=I X2.o.lt;clear b2 c0 c1 c2 B1 X1 U1 cA
 cases vc with
 | false =>
  rw[if_neg (by decide)] at aN;subst aN;have bK:Hid (PA=false):=I (by rw[bJ.o];rfl);clear bJ
  go_wp2_with fail
  go_ret;exact⟨by rw[bK.o];rfl,B2.o⟩
 | true =>
  rw[if_pos rfl] at aN;obtain⟨A,rfl,hR,-⟩:=aN;have HR:=I hR;have cV:=I (cU.o rfl);clear hR cU;obtain⟨c0,c1,c2⟩:=X2.o.c3;obtain⟨p0,p1,p2,p3⟩:=U2.o.c4;have Cy:=I (pL.o w2 qo mo uo qc mc uc);have ew:IntKind.i64.wrap ((nm:Int)-1)=(nm:Int)-1:=fU _ (by omega)
  go_wp2_with fail
  refine Cy.o.mono ?_;rintro e w3 ⟨rfl,b3⟩;have B3:=B2.tr b3;have X3:=X2.st b3;have U3:=I (U2.o.step b3);have yB:=I (HR.o.below b3);clear b3 c0 c1 c2 p0 p1 p2 p3 HR X2 U2 B2 Cy pL
  cases vu with
  | false =>
   have bK:Hid (PA=false):=I (by rw[bJ.o];rfl);clear bJ
   go_wp2_with fail
   go_ret;exact⟨by rw[bK.o];rfl,B3.o⟩
  | true =>
   have c1:=X3.o.cell 1 _ rfl;have gB:=I (vQ k 0 ((nm:Int)-1) w3);rw[<- mZ.o] at gB;generalize oB:cM k nm=ib at *;have jq:=I oB;clear oB
   go_wp2_with fail
   refine gB.o.mono ?_;rintro e w4 ⟨rfl,rfl⟩;clear gB c1
   cases ib with
   | false =>
    have bK:Hid (PA=false):=I (by rw[bJ.o];rfl);clear bJ
    go_wp2_with fail
    go_ret;exact⟨by rw[bK.o];rfl,B3.o⟩
   | true =>
    obtain⟨j,rfl,hj⟩:=eZ.o (by first | rfl | trivial);have hq:=H0.o (by first | rfl | trivial);have bK:Hid (PA=RX.getD j false):=I (by rw[bJ.o];rfl);have Ql:=I (mD.o w3 A yB.o hq.1 hq.2.1);obtain⟨p0,p1,p2,p3⟩:=U3.o.c4;have gp:Hid (RX.length=nm):=vk;clear bJ mD hq
    go_wp2_with fail
    refine Ql.o.mono ?_;rintro e w5 ⟨bo,rfl,-,⟨V,rfl,-,hV⟩,b5⟩;have KA:=hV.cell j (.bool (RX.getD j false)) (Fk (by rw[gp.o];exact hj));have B5:=B3.tr b5
    have jj:(j:Int)<nm:=by omega
    rw[<- bK.o] at KA;clear hV b5 Ql p0 p1 p2 p3
    go_wp2_with fail
    go_ret;exact⟨rfl,B5.o⟩
def tN(c:Crw):Nat->List Int->List (List Bool)->Option (List (List Bool))
 | _,[],C=>some C
 | i,m::l,C=>if inB m (-1) ((c.ms.length:Int)-1)=true then tN c (i+1) l (if m = -1 then C else bV c C i m.toNat) else none
def Bf(c:Crw)(l:List Int):Option (List (List Bool)):=if (bG c&&decide (l.length=c.us.length))=true then tN c 0 l (aW c) else none
def Li(w w':World)(c:Crw)(l:List Int)(e:Ending):Prop:=Below w.heap.size w w'/\match Bf c l with
 | none=>e = .returned (.tuple #[.slice none 0 0,.bool false])
 | some C=>if gD (aR c C)=true then ∃ o cap,e = .returned (.tuple #[.slice o (fO c c.us.length 0 C []).length cap,.bool true])/\OwnK w' w.heap.size 1 (fO c c.us.length 0 C []).length cap (bE (fO c c.us.length 0 C [])) o
  else e = .returned (.tuple #[.slice none 0 0,.bool false])
theorem YL(w:World)(c:Crw)(cs:List Value)(B:Nat)(l:List Int)(lo:Option Addr)(lc:Nat)(ha:ArgC w c cs B)(hl:aY aZ w lo l) :
  Calls Tryz.prog 23 #[.agg cs.toArray,.slice lo l.length lc] w fun e w'=>Li w w' c l e:=by
 have iT:=I (fun W (hW:Below w.heap.size w W)=>Lf W c cs (ha.below hW).crw B (ha.below hW).tab ha.ok);have iC:=ha.nu;have cU:=I (fun(h:bG c=true)=>qP h (by omega));have nM:=I (fun(h:bG c=true)=>tL h);have vD:=I ha;have lE:=ha.ok.nq;have jI:=ha.ok.nm;have bJ:Hid (Bf c l=if (bG c&&decide (l.length=c.us.length))=true then tN c 0 l (aW c) else none):=I rfl;have tP:Hid (∀ w' e,Bf c l=none->Below w.heap.size w w'->e = .returned (.tuple #[.slice none 0 0,.bool false])->Li w w' c l e):=I (fun w' e h hb he=>by unfold Li;rw[h];exact⟨hb,he⟩)
 have Qq:Hid (∀ w2 w' e C,Bf c l=some C->Below w.heap.size w w2->vS w2 c C e w'->Li w w' c l e):=I (fun w2 w' e C h hb he=>by
  obtain⟨h1,h2⟩:=he;refine⟨hb.trans (h1.mono hb.size),?_⟩;rw[h]
  show if _ then _ else _
  by_cases hf:gD (aR c C)=true
  ·rw[if_pos hf] at h2 ⊢
   obtain⟨o,cap,h3,h4⟩:=h2;exact⟨o,cap,h3,h4.low hb.size⟩
  ·rw[if_neg hf] at h2 ⊢
   exact h2)
 have Mq:Hid (∀ e w2 w' C,vS w2 c C e w'->(∃ a b,e = .returned (.tuple #[a,b])) ):=I (fun e w2 w' C he=>by
  obtain⟨h1,h2⟩:=he;by_cases hf:gD (aR c C)=true
  ·rw[if_pos hf] at h2
   obtain⟨o,cap,h3,h4⟩:=h2;exact⟨_,_,h3⟩
  ·rw[if_neg hf] at h2
   exact⟨_,_,h2⟩)
 have fQ:=I (fun W (hW:Below w.heap.size w W)=>hl.below hW);clear hl;generalize Bf c l=PA at *;generalize fX:l.length=nl at *;have qH:=I fX;clear fX;obtain⟨qo,qc,mo,mc,uo,uc,rfl,dL,cN,dN,-⟩:=ha.crw;have nA:=I (fun W (hW:Below w.heap.size w W)=>cN.below hW);have jJ:=I (fun W (hW:Below w.heap.size w W)=>dN.below hW);unfold Fm at iT;clear ha dL cN dN;generalize eW:c.qs.length=nq at *;generalize cY:c.ms.length=nm at *;generalize dH:c.us.length=nu at *;have wN:=I eW;have fF:=I cY;have dZ:=I dH;clear eW cY dH;generalize iM:bG c=vc at *;have lD:=I iM;clear iM;have X1:=hnw w 26 [.slice qo nq qc,.slice mo nm mc,.slice uo nu uc];have B1:=I (bwA w (.cells #[.slice qo nq qc,.slice mo nm mc,.slice uo nu uc] 26))
 go_enter Tryz.func23,Tryz.ntmps23
 go_upto_region 1 with(fail)
 generalize w.alloc (.cells #[.slice qo nq qc,.slice mo nm mc,.slice uo nu uc] 26)=w1 at *;obtain⟨c0,c1,c2⟩:=X1.o.c3;have cA:=I (iT.o w1 B1.o);clear iT
 go_wp2_with fail
 refine cA.o.mono ?_;intro e w2 hq;obtain⟨aN,b2⟩:=hq;have B2:=B1.tr b2;have X2:=X1.st b2;have mA:Hid (w.heap.size<w2.heap.size):=I X2.o.lt;clear b2 c0 c1 c2 B1 X1 cA
 cases vc with
 | false =>
  rw[if_neg (by decide)] at aN;subst aN;have bK:Hid (PA=none):=I (by rw[bJ.o];rfl);clear bJ
  go_wp2_with fail
  go_ret2
  exact tP.o _ _ bK.o B2.o rfl
 | true =>
  rw[if_pos rfl] at aN;obtain⟨A,rfl,hR,-⟩:=aN;have HR:=I hR;have cV:=I (cU.o rfl);clear hR cU;have c2:=X2.o.cell 2 _ rfl;by_cases Yx:nl=nu
  ·subst Yx
   have bK:Hid (PA=tN c 0 l (aW c)):=I (by rw[bJ.o,decide_eq_true rfl];rfl);clear bJ
   go_wp2_with fail
   clear c2;have Gr:=I (aG w2.heap.size w2);have Qp:Hid (tN c 0 (l.drop 0) (aW c)=PA):=I (by rw[List.drop_zero,bK.o])
   go_loopw [27,6] (fun kv rv wr=>∃ (k X:Nat) (C:List (List Bool)),kv = .int .i64 k/\rv = .pointer (some ⟨X,0,none⟩)/\k<=nl/\Hid (tN c k (l.drop k) C=PA)/\Hid (fG wr X c (bS c) C)/\Hid (ReckOk c C)/\Hid (aC wr w.heap.size 26 [.slice qo nq qc,.slice mo nm mc,.slice uo nl uc])/\Hid (Below w.heap.size w wr)) (fun k _ _=>(nl-intOf k).toNat)
   case atStart=>exact⟨0,A,aW c,rfl,rfl,by omega,Qp,HR,cV,X2,B2⟩
   case round =>
    clear Qp HR cV X2 B2 Gr bK mA;obtain⟨k,X,C,rfl,rfl,hk,HD,HR,cV,X2,B2⟩:=hrel;have e2:=w1i k (by omega);by_cases bT:k<nl
    ·have kk:(k:Int)<nl:=by omega
     obtain⟨m,hm⟩:∃ m,l[k]?=some m:=⟨_,aL (by rw[qH.o];exact bT)⟩;obtain⟨gl,ol,fI,dT,vE⟩:=(fQ.o wr B2.o).at jN k m hm;have l0:=vE 0 _ rfl;rw[Nat.mul_one,Nat.add_zero] at l0;subst fI
     have Ju:Hid (PA=if inB m (-1) ((nm:Int)-1)=true then tN c (k+1) (l.drop (k+1)) (if m = -1 then C else bV c C k m.toNat) else none):=I (by
      rw[<- HD.o,List.drop_eq_getElem_cons (by rw[qH.o];exact bT),<- fF.o];have:l[k]'(by rw[qH.o];exact bT)=m:=(fD.1 hm).2;rw[this]
      rfl)
     have c1:=X2.o.cell 1 _ rfl;have ew:IntKind.i64.wrap ((nm:Int)-1)=(nm:Int)-1:=fU _ (by omega);have gB:=I (vQ m (-1) ((nm:Int)-1) wr)
     have eZ:Hid (inB m (-1) ((nm:Int)-1)=true->-1<=m/\m<=(nm:Int)-1):=I (fun h=>by
      unfold inB at h
      simpa using h)
     clear hm vE dT HD;generalize inB m (-1) ((nm:Int)-1)=ib at *
     go_wp2_with fail
     refine gB.o.mono ?_;rintro e w4 ⟨rfl,rfl⟩;clear gB c1 l0
     cases ib with
     | false =>
      have bK:Hid (PA=none):=I (by rw[Ju.o];rfl);clear Ju
      go_wp2_with fail
      go_ret2
      exact tP.o _ _ bK.o B2.o rfl
     | true =>
      obtain⟨yR,kN⟩:=eZ.o (by first | rfl | trivial);by_cases h1:m = -1
      ·subst h1
       have Pt:Hid (tN c (k+1) (l.drop (k+1)) C=PA):=I (by rw[Ju.o];rfl);clear Ju eZ
       go_wp2_with fail
       go_roundw
       case rel=>exact⟨k+1,X,C,by go_num,rfl,by omega,Pt,HR,cV,X2,B2⟩
       case measure=>simp only[intOf];omega
      ·obtain⟨j,rfl⟩:∃ j:Nat,m=(j:Int):=⟨m.toNat,by omega⟩
       have hj:j<nm:=by omega
       have Pt:Hid (tN c (k+1) (l.drop (k+1)) (bV c C k j)=PA):=I (by rw[Ju.o,if_pos rfl,if_neg h1];rfl);have zE:=I (EQ wr X c (bS c) C k j HR.o (by rw[cV.o.len,dZ.o];exact bT) (by rw[fF.o];exact hj) cV.o.row (by rw[cV.o.len,dZ.o];omega) (by rw[fF.o];omega));have vl:=I (cV.o.fix k j);clear Ju eZ HR
       have cT:¬ ((j:Nat):Int) = -1:=by omega
       go_wp2_with fail
       refine zE.o.mono ?_;rintro e w5 ⟨X',rfl,hX,-,b5⟩;have HX:=I hX;have X5:=X2.st b5;have B5:=B2.tr b5;clear hX b5 zE X2 B2 cV
       go_wp2_with fail
       go_roundw
       case rel=>exact⟨k+1,X',bV c C k j,by go_num,rfl,by omega,Pt,HX,vl,X5,B5⟩
       case measure=>simp only[intOf];omega
    ·have kk:¬ (k:Int)<nl:=by omega
     obtain rfl:nl=k:=by omega
     have bK:Hid (PA=some C):=I (by rw[<- HD.o,List.drop_of_length_le (by rw[qH.o];exact aO _)];rfl);have rY:=I (YA wr X c (bS c) C HR.o cV.o);clear HD HR
     go_wp2_with fail
     refine rY.o.mono ?_;intro e w3 hq;have HQ:=I (Qq.o wr w3 e C bK.o B2.o hq);obtain⟨a,b,rfl⟩:=Mq.o e wr w3 C hq;clear hq rY Qq tP Mq
     go_wp2_with fail
     go_ret2
     exact HQ.o
  ·have bK:Hid (PA=none):=I (by rw[bJ.o,decide_eq_false Yx];rfl)
   have cT:¬ ((nl:Nat):Int)=nu:=by omega
   clear bJ
   go_wp2_with fail
   go_ret2
   exact tP.o _ _ bK.o B2.o rfl
end
section
open Go.RowKit Go.Sort Go.Maps
def pY(c:Crw)(x:Int):Int:=(c.us.getD x.toNat ⟨0,0,0,0⟩).w
def jF(c:Crw)(set:List Int)(i:Nat):Bool:=cM (set.getD i 0) c.us.length&&(decide (i=0)||decide (set.getD (i-1) 0<set.getD i 0))&&decide (pY c (set.getD i 0)=pY c (set.getD 0 0))
def eJ(C:List (List Bool))(set:List Int)(k:Nat):Bool:=set.any (fun x=>(C.getD x.toNat []).getD k false)
def nH(c:Crw)(C:List (List Bool))(set:List Int):Nat->Int
 | 0=>0
 | k+1=>nH c C set k+(if eJ C set k=true then eI (c.ms.getD k ⟨[],[],0⟩).t (pY c (set.getD 0 0)).toNat else 0)
def Hu(c:Crw)(u m:Int)(set:List Int):Bool:=pA c u m&&decide (0<set.length)&&(List.range set.length).all (jF c set)&&decide (nH c (bV c (aW c) u.toNat m.toNat) set c.ms.length<(set.length:Int))
theorem YM{C:List (List Bool)}{set:List Int}{i:Nat}{x:Int}(h:set[i]?=some x)(k:Nat):eJ C (set.take (i+1)) k=(eJ C (set.take i) k||(C.getD x.toNat []).getD k false):=by
 unfold eJ;rw[lN,h,List.any_append];simp
theorem YN{f g:Nat->Bool}{n k:Nat}(hk:k<n):(((List.range n).map (fun j=>if j<k then g j else f j)).set k (g k))=(List.range n).map (fun j=>if j<k+1 then g j else f j):=by
 rw[oe]
 congr 1
 funext j
 by_cases e:j=k
 ·subst e;rw[cE,if_pos (by omega)]
 ·rw[dA _ _ _ e]
  by_cases e2:j<k
  ·rw[if_pos e2,if_pos (by omega)]
  ·rw[if_neg e2,if_neg (by omega)]
theorem YO(w:World)(c:Crw)(cs:List Value)(B:Nat)(u m:Int)(set:List Int)(so:Option Addr)(sc:Nat)(ha:ArgC w c cs B)(hs:aY aZ w so set)(Cx:set.length<=1000000) :
  Calls Tryz.prog 58 #[.agg cs.toArray,.int .i64 u,.int .i64 m,.slice so set.length sc] w fun e w'=>e = .returned (.bool (Hu c u m set))/\Below w.heap.size w w':=by
 have jH:=I (fun W (hW:Below w.heap.size w W)=>YG W c cs B u m (ha.below hW));unfold Tc at jH;have gj:=I (fun(h:pA c u m=true)=>(YF h).1);have cU:=I (fun(h:pA c u m=true)=>YH h ha.nu);have iC:=ha.nu;have oQ:=I (fun W (hW:Below w.heap.size w W)=>hs.below hW);have bJ:Hid (Hu c u m set=(pA c u m&&decide (0<set.length)&&(List.range set.length).all (jF c set)&&decide (nH c (bV c (aW c) u.toNat m.toNat) set c.ms.length<(set.length:Int)))):=I rfl
 have oD:Hid (∀ i,i<set.length->jF c set i=false->Hu c u m set=false):=I (fun i hi h=>by
  unfold Hu
  have:(List.range set.length).all (jF c set)=false:=by
   rw[List.all_eq_false];exact⟨i,List.mem_range.2 hi,by rw[h];decide⟩
  rw[this,Bool.and_false,dS])
 generalize Hu c u m set=PA at *;obtain⟨qo,qc,mo,mc,uo,uc,rfl,dL,cN,dN,-⟩:=ha.crw;have nA:=I (fun W (hW:Below w.heap.size w W)=>cN.below hW);have jJ:=I (fun W (hW:Below w.heap.size w W)=>dN.below hW);clear ha hs dL cN dN;generalize pA c u m=FA at *;generalize hCF:bV c (aW c) u.toNat m.toNat=CF at *;clear hCF;generalize eW:c.qs.length=nq at *;generalize cY:c.ms.length=nm at *;generalize dH:c.us.length=nu at *;generalize KC:set.length=ns at *;have fF:=I cY;have dZ:=I dH;have sY:=I KC;clear eW cY dH KC;have X1:=hnw w 26 [.slice qo nq qc,.slice mo nm mc,.slice uo nu uc];have B1:=I (bwA w (.cells #[.slice qo nq qc,.slice mo nm mc,.slice uo nu uc] 26))
 go_enter Tryz.func58,Tryz.ntmps58
 go_upto_region 1 with(fail)
 generalize w.alloc (.cells #[.slice qo nq qc,.slice mo nm mc,.slice uo nu uc] 26)=w1 at *;obtain⟨c0,c1,c2⟩:=X1.o.c3;have cA:=I (jH.o w1 B1.o);clear jH
 go_wp2_with fail
 refine cA.o.mono ?_;intro e w2 hq;obtain⟨b2,aN⟩:=hq;have B2:=B1.tr b2;have X2:=X1.st b2;clear b2 c0 c1 c2 B1 X1 cA
 cases FA with
 | false =>
  rw[if_neg (by decide)] at aN;subst aN;have bK:Hid (PA=false):=I (by rw[bJ.o];rfl);clear bJ oD
  go_wp2_with fail
  go_ret;exact⟨by rw[bK.o];rfl,B2.o⟩
 | true =>
  rw[if_pos rfl] at aN;obtain⟨R,rfl,hR⟩:=aN;have cV:=I (cU.o (by first | rfl | trivial));have lD:=I (gj.o (by first | rfl | trivial));have HR:=I hR;clear hR cU gj;by_cases rB:ns=0
  ·subst rB
   have bK:Hid (PA=false):=I (by rw[bJ.o];rfl);clear bJ oD
   go_wp2_with fail
   go_ret;exact⟨by rw[bK.o];rfl,B2.o⟩
  ·have bK:Hid ((List.range ns).all (jF c set)=true->PA=decide (nH c CF set nm<(ns:Int))):=I (fun h=>by rw[bJ.o,h,decide_eq_true (by omega:0<ns)];rfl)
   clear bJ;have vp:=cV.o.nm;have hnmE:=fF.o;rw[hnmE] at vp;have c1:=X2.o.cell 1 _ rfl;have gW:=run_make_row' (P:=Tryz.prog) 87 4 (.bool false) 1 Tryz.underlying87 Kx rfl .i64 .i64 nm (by omega) (by omega);rw[Vv] at gW
   have cT:¬ ((ns:Nat):Int)=0:=by omega
   go_upto_region 5 with(fail)
   clear gW c1;obtain⟨V,hV⟩:=exq (w2.heap.size);have bx:=bwA w2 (.cells (bvs (List.replicate nm false)).toArray 4)
   have V3:Hid (aC (w2.alloc (.cells (bvs (List.replicate nm false)).toArray 4)) V 4 (bvs ((List.range nm).map (eJ CF (set.take 0))))):=I (by
    have e:(List.range nm).map (eJ CF (set.take 0))=List.replicate nm false:=by
     rw[List.take_zero];show(List.range nm).map (fun _=>false)=_;rw[List.map_const',List.length_range]
    rw[e]
    exact aC.newAt _ _ _ _ hV.symm)
   have B3:=I bx;rw[hV] at B3 ⊢;have KD:Hid (w.heap.size<V):=I (by rw[<- hV];exact X2.o.lt);have X3:=X2.st bx;have zG:Hid (Below w2.heap.size w2 (w2.alloc (.cells (bvs (List.replicate nm false)).toArray 4))):=I bx;have Lz:=I hV;clear bx hV X2;generalize w2.alloc (.cells (bvs (List.replicate nm false)).toArray 4)=w3 at *
   go_wp2_with fail
   have HZ:Hid (∀ j,j<0->jF c set j=true):=I (fun j hj=>absurd hj (jU j))
   go_loopw [39] (fun iv wr=>∃ (i:Nat),iv = .int .i64 i/\i<=ns/\Hid (∀ j,j<i->jF c set j=true)/\Hid (aC wr V 4 (bvs ((List.range nm).map (eJ CF (set.take i)))))/\Hid (Only w3 wr (· = V))) (fun k _=>(ns-intOf k).toNat)
   case atStart=>exact⟨0,rfl,by omega,HZ,V3,I (Only.refl _ _)⟩
   case round =>
    clear HZ V3;obtain⟨i,rfl,hi,HJ,V4,ON⟩:=hrel;have e2:=w1i i (by omega);have Uo:Hid (Below w2.heap.size w2 wr):=I (zG.o.trans (ON.o.below zG.o.size (fun g hg=>by rw[hg,Lz.o];exact aO _)));have B4:Hid (Below w.heap.size w wr):=B2.tr Uo.o;by_cases aT:i<ns
    ·have ii:(i:Int)<ns:=by omega
     obtain⟨x,hx⟩:∃ x,set[i]?=some x:=⟨_,aL (by rw[sY.o];exact aT)⟩;have HX:=I hx;have KE:Hid (set.getD i 0=x):=I (by rw[bR,hx];rfl);obtain⟨gs,os,Mr,Ln,Yy⟩:=(oQ.o wr B4.o).at jN i x hx;have si:=Yy 0 _ rfl;rw[Nat.mul_one,Nat.add_zero] at si;subst Mr;have X4:=I (X3.o.only ON.o (by have:=KD.o;omega));have c2:=X4.o.cell 2 _ rfl;have ew:IntKind.i64.wrap ((nu:Int)-1)=(nu:Int)-1:=fU _ (by omega);have eZ:=I (fun h=>oZ (u:=x) (n:=nu) h);have gB:Hid (∀ W:World,Below wr.heap.size wr W->Calls Tryz.prog 83 #[.int .i64 x,.int .i64 0,.int .i64 ((nu:Int)-1)] W fun e w'=>e = .returned (.bool (cM x nu))/\Below W.heap.size W w'):=I (fun W _=>(vQ x 0 ((nu:Int)-1) W).mono (fun e w' h=>⟨h.1,by rw[<- h.2];exact aG _ _⟩));have zI:Hid (jF c set i=(cM x nu&&(decide (i=0)||decide (set.getD (i-1) 0<x))&&decide (pY c x=pY c (set.getD 0 0)))):=I (by unfold jF;rw[KE.o,dZ.o]);clear hx Yy Ln;generalize oB:cM x nu=ib at *;have jq:=I oB;clear oB;have r1:=UA wr (fun W hW=>gB.o W hW);have Qr:=cell_regrown c2
     cases ib with
     | false =>
      have tB:Hid (jF c set i=false):=I (by rw[zI.o];rfl);clear zI
      go_upto_region 8 with(fail)
      refine wp_region_quiet_below (by kernel_rfl) (by kernel_rfl) ?_
      repeat (go_big_quiet_step (with_reducible (exact r1 _ _)))
      refine wpQuiet_nil ?_;intro _ bM;obtain⟨⟨dq,osq⟩,dF⟩:=bM;subst dF;have BQ:=I (below_regrown wr dq osq);clear r1 Qr c2 si gB;generalize grow (redrawn wr dq) osq=wy at *
      go_wp2_with fail
      go_ret;exact⟨by rw[oD.o i aT tB.o];rfl,B4.o.trans (BQ.o.mono B4.o.size)⟩
     | true =>
      obtain⟨k,H5,hk⟩:=eZ.o (by first | rfl | trivial);subst H5
      have kk:(k:Int)<nu:=by omega
      obtain⟨xu,xY⟩:∃ y,c.us[k]?=some y:=⟨_,aL (by rw[dZ.o];exact hk)⟩
      have vq:Hid (pY c (k:Int)=xu.w):=I (by
       show(c.us.getD k ⟨0,0,0,0⟩).w=xu.w
       rw[bR,xY];rfl)
      obtain⟨gu,ou,eV,iZ,cF⟩:=(jJ.o wr B4.o).at mN k xu xY;have uk:=cF 1 _ rfl;have Mg:=I eV;have uk':=cell_regrown uk;have si':=cell_regrown si;clear iZ cF xY;have Xb:Hid (wr.cell? ⟨gs,os+i,none⟩=some (.int .i64 (k:Int))):=I si;obtain⟨ru,fJ⟩:∃ y,CF[k]?=some y:=⟨_,aL (by rw[cV.o.len,dZ.o];exact hk)⟩;have eX:Hid (ru.length=nm):=I (by rw[cV.o.row _ (bU fJ),fF.o])
      have Jv:Hid (∀ j,eJ CF (set.take (i+1)) j=(eJ CF (set.take i) j||ru.getD j false)):=I (fun j=>by
       rw[YM HX.o,Int.toNat_natCast,bR (l:=CF),fJ];rfl)
      obtain⟨qo',mo',uo',nT,co',qc',mc',uc',Bt,cc',hA,hRC,-⟩:=HR.o;have h4:=hA.cell 4 _ rfl;rw[cV.o.len,dZ.o] at h4;obtain⟨gc,oc,bo,bc,iE,mU,fS,iA⟩:=hRC.c.at k ru fJ;rw[iE] at h4;rw[eX.o] at fS
      have Ql:=I (fun W (hW:Below w2.heap.size w2 W)=>(show W.cell? ⟨R,4,none⟩=some (.slice (some ⟨gc,oc,none⟩) nu cc')/\W.cell? ⟨gc,oc+k,none⟩=some (.slice bo nm bc) by
       rw[rJ (w:=w2) (a:=⟨R,4,none⟩) (hW.block R hA.lt),rJ (w:=w2) (a:=⟨gc,oc+k,none⟩) (hW.block gc mU)]
       exact⟨h4,fS⟩))
      have mV:=I (fun W (hW:Below w2.heap.size w2 W)=>iA.below hW);clear hA hRC h4 iE mU fS iA fJ;by_cases wA:i=0
      ·subst wA
       have i0:¬ (0:Int)<((0:Nat):Int):=by omega
       have di:decide ((0:Int)<((0:Nat):Int))=false:=decide_eq_false (by omega);have H6:decide (0<0)=false:=rfl;have s0:=si;rw[Nat.add_zero] at s0;have Cc:=cell_regrown s0
       have zz:(0:Int)<ns:=by omega
       have tB:Hid (jF c set 0=true):=I (by rw[zI.o,KE.o];simp);generalize xu.w=xw at *;subst eV
       go_upto_region 8 with(fail)
       refine wp_region_quiet_below (by kernel_rfl) (by kernel_rfl) ?_
       repeat (go_big_quiet_step (with_reducible (exact r1 _ _)))
       refine wpQuiet_nil ?_;intro _ bM;obtain⟨⟨dq,osq⟩,dF⟩:=bM;subst dF;have BQ:=I (below_regrown wr dq osq);clear r1 Qr c2 si gB s0 Cc uk uk' si' di H6;generalize grow (redrawn wr dq) osq=wy at *;have V5:=I (V4.o.step BQ.o);have wO:=I (ON.o.step BQ.o);have Yz:=Uo.tr BQ.o;obtain⟨x4,xr⟩:=Ql.o wy Yz.o;clear V4 ON BQ Uo B4 X4
       go_wp2_with fail
       clear x4 xr;have V6:Hid (aC wy V 4 (bvs ((List.range nm).map (fun l=>if l<0 then eJ CF (set.take (0+1)) l else eJ CF (set.take 0) l)))):=V5
       go_loopw [89] (fun jv ws=>∃ (j:Nat),jv = .int .i64 j/\j<=nm/\Hid (aC ws V 4 (bvs ((List.range nm).map (fun l=>if l<j then eJ CF (set.take (0+1)) l else eJ CF (set.take 0) l))))/\Hid (Only w3 ws (· = V))) (fun k _=>(nm-intOf k).toNat)
       case atStart=>exact⟨0,rfl,by omega,V6,wO⟩
       case round =>
        clear V6 V5 wO Yz;obtain⟨j,rfl,hj,V7,Jw⟩:=hrel;have e5:=w1i j (by omega);have vt:Hid (Below w2.heap.size w2 wr):=I (zG.o.trans (Jw.o.below zG.o.size (fun g hg=>by rw[hg,Lz.o];exact aO _)));by_cases rM:j<nm
        ·have jj:(j:Int)<nm:=by omega
         obtain⟨gb,ob,dE,iR⟩:=(mV.o wr vt.o).bool j (by rw[eX.o];exact rM);have qX:=I dE;subst dE
         have vc:=V7.o.cell j (.bool (eJ CF (set.take 0) j)) (by
          unfold bvs;rw[dK,dK,List.getElem?_range rM];show some (Value.bool (if j<j then _ else _))=_
          rw[if_neg (Nat.lt_irrefl j)])
         have vf:=V7.o.warm j;have Gs:=I (Jv.o j);obtain⟨bt,mW⟩:=exq (ru.getD j false);obtain⟨od,Za⟩:=exq (eJ CF (set.take 0) j);rw[mW] at iR Gs;rw[Za] at vc Gs
         have Co:Hid (aC (wr.setCell ⟨V,j,none⟩ (.bool (od||bt))) V 4 (bvs ((List.range nm).map (fun l=>if l<j+1 then eJ CF (set.take (0+1)) l else eJ CF (set.take 0) l)))):=I (by
          have:=V7.o.set j (.bool (od||bt));have e:=YN (f:=eJ CF (set.take 0)) (g:=eJ CF (set.take (0+1))) rM;rw[Gs.o] at e
          rwa [<- zY,e] at this)
         have Jy:=I (Jw.o.setCell (a:=⟨V,j,none⟩) (.bool (od||bt)) rfl);clear mW Za V7 Jw
         cases od with
         | true =>
          go_upto_region 14 with(fail)
          clear vc vf iR;simp only[Bool.true_or] at Co Jy;generalize wr.setCell ⟨V,j,none⟩ (.bool true)=w8 at *
          go_wp2_with fail
          go_roundw
          case rel=>exact⟨j+1,by go_num,by omega,Co,Jy⟩
          case measure=>simp only[intOf];omega
         | false =>
          go_upto_region 14 with(fail)
          clear vc vf iR;simp only[Bool.false_or] at Co Jy;generalize wr.setCell ⟨V,j,none⟩ (.bool bt)=w8 at *
          go_wp2_with fail
          go_roundw
          case rel=>exact⟨j+1,by go_num,by omega,Co,Jy⟩
          case measure=>simp only[intOf];omega
        ·have jj:¬ (j:Int)<nm:=by omega
         obtain rfl:nm=j:=by omega
         have V9:Hid (aC wr V 4 (bvs ((List.range nm).map (eJ CF (set.take (0+1)))))):=I (by
          have:=V7.o;have e:(List.range nm).map (fun l=>if l<nm then eJ CF (set.take (0+1)) l else eJ CF (set.take 0) l)=(List.range nm).map (eJ CF (set.take (0+1))):=List.map_congr_left (fun l hl=>if_pos (List.mem_range.1 hl))
          rwa [e] at this)
         have sQ:Hid (∀ j,j<0+1->jF c set j=true):=I (fun j hj=>by
          rcases gQ j 0 with h | h
          ·exact HJ.o j h
          ·obtain rfl:j=0:=by omega
           exact tB.o)
         go_wp2_with fail
         go_roundw
         case rel=>first | exact⟨_,_,_,_,_,_,⟨0+1,by go_num,by omega,sQ,V9⟩,rfl,rfl,rfl,rfl,rfl,rfl⟩ | exact⟨_,_,_,_,_,_,⟨0+1,by go_num,by omega,sQ,V9,Jw⟩,rfl,rfl,rfl,rfl,rfl,rfl⟩
         case measure=>simp only[intOf];omega
      ·have i0:(0:Int)<(i:Int):=by omega
       have jr:=I (HJ.o 0 (by omega));obtain⟨x0,mG⟩:∃ x,set[0]?=some x:=⟨_,aL (by rw[sY.o];omega)⟩;obtain⟨y,hy⟩:∃ x,set[i-1]?=some x:=⟨_,aL (by rw[sY.o];omega)⟩;have Zb:Hid (set.getD 0 0=x0):=I (by rw[bR,mG];rfl);have H8:Hid (set.getD (i-1) 0=y):=I (by rw[bR,hy];rfl)
       have tC:cM x0 nu=true:=by
        have:=jr.o;unfold jF at this;rw[Zb.o,dZ.o] at this;simp only[dB] at this;exact this.1.1
       obtain⟨k0,yV,hk0n⟩:=oZ tC;subst yV;obtain⟨Cz,tD⟩:∃ y,c.us[k0]?=some y:=⟨_,aL (by rw[dZ.o];exact hk0n)⟩
       have Yr:Hid (pY c (k0:Int)=Cz.w):=I (by
        show(c.us.getD k0 ⟨0,0,0,0⟩).w=Cz.w
        rw[bR,tD];rfl)
       obtain⟨cG,os1,vv,vw,Zc⟩:=(oQ.o wr B4.o).at jN 0 (k0:Int) mG;obtain⟨eC,os2,vx,vy,Zd⟩:=(oQ.o wr B4.o).at jN (i-1) y hy;have s0:=Zc 0 _ rfl;have sp:=Zd 0 _ rfl;rw[Nat.mul_one,Nat.add_zero] at s0 sp;cases vv;cases vx;obtain⟨gu2,ou2,Ze,vz,Zf⟩:=(jJ.o wr B4.o).at mN k0 Cz tD;have u0:=Zf 1 _ rfl;rw[eV] at Ze;cases Ze
       have yC:Hid (jF c set i=(decide (y<(k:Int))&&decide (xu.w=Cz.w))):=I (by
        rw[zI.o,Zb.o,H8.o,vq.o,Yr.o,decide_eq_false wA,Bool.false_or,cH])
       try rw[Nat.add_zero] at s0
       obtain⟨i',rfl⟩:∃ i',i=i'+1:=⟨i-1,by omega⟩;rw[Nat.add_sub_cancel] at sp
       have Xo:IntKind.i64.wrap (((i'+1:Nat):Int)-1)=(i':Int):=by rw[show((i'+1:Nat):Int)-1=(i':Int) by omega];exact fU _ (by omega)
       have ii':(i':Int)<ns:=by omega
       have zz:(0:Int)<ns:=by omega
       have H9:(k0:Int)<nu:=by omega
       have Cc:=cell_regrown s0;have sp':=cell_regrown sp;have Zg:=cell_regrown u0;clear mG hy Zc Zd vw vy vz Zf tD tC zI;generalize xu.w=xw at *;generalize Cz.w=I0 at *;subst eV;by_cases KF:y<(k:Int)
       ·have we:¬ (k:Int)<=y:=by omega
        by_cases uZ:xw=I0
        ·have tB:Hid (jF c set (i'+1)=true):=I (by rw[yC.o,decide_eq_true KF,decide_eq_true uZ];rfl)
         clear yC
         go_upto_region 8 with(fail)
         refine wp_region_quiet_below (by kernel_rfl) (by kernel_rfl) ?_
         repeat (go_big_quiet_step (with_reducible (exact r1 _ _)))
         refine wpQuiet_nil ?_;intro _ bM;obtain⟨⟨dq,osq⟩,dF⟩:=bM;subst dF;have BQ:=I (below_regrown wr dq osq);clear r1 Qr c2 si gB s0 Cc uk uk' si' sp sp' u0 Zg;generalize grow (redrawn wr dq) osq=wy at *;have V5:=I (V4.o.step BQ.o);have wO:=I (ON.o.step BQ.o);have Yz:=Uo.tr BQ.o;obtain⟨x4,xr⟩:=Ql.o wy Yz.o;clear V4 ON BQ Uo B4 X4
         go_wp2_with fail
         clear x4 xr;have V6:Hid (aC wy V 4 (bvs ((List.range nm).map (fun l=>if l<0 then eJ CF (set.take ((i'+1)+1)) l else eJ CF (set.take (i'+1)) l)))):=V5
         go_loopw [89] (fun jv ws=>∃ (j:Nat),jv = .int .i64 j/\j<=nm/\Hid (aC ws V 4 (bvs ((List.range nm).map (fun l=>if l<j then eJ CF (set.take ((i'+1)+1)) l else eJ CF (set.take (i'+1)) l))))/\Hid (Only w3 ws (· = V))) (fun k _=>(nm-intOf k).toNat)
         case atStart=>exact⟨0,rfl,by omega,V6,wO⟩
         case round =>
          clear V6 V5 wO Yz;obtain⟨j,rfl,hj,V7,Jw⟩:=hrel;have e5:=w1i j (by omega);have vt:Hid (Below w2.heap.size w2 wr):=I (zG.o.trans (Jw.o.below zG.o.size (fun g hg=>by rw[hg,Lz.o];exact aO _)));by_cases rM:j<nm
          ·have jj:(j:Int)<nm:=by omega
           obtain⟨gb,ob,dE,iR⟩:=(mV.o wr vt.o).bool j (by rw[eX.o];exact rM);have qX:=I dE;subst dE
           have vc:=V7.o.cell j (.bool (eJ CF (set.take (i'+1)) j)) (by
            unfold bvs;rw[dK,dK,List.getElem?_range rM];show some (Value.bool (if j<j then _ else _))=_
            rw[if_neg (Nat.lt_irrefl j)])
           have vf:=V7.o.warm j;have Gs:=I (Jv.o j);obtain⟨bt,mW⟩:=exq (ru.getD j false);obtain⟨od,Za⟩:=exq (eJ CF (set.take (i'+1)) j);rw[mW] at iR Gs;rw[Za] at vc Gs
           have Co:Hid (aC (wr.setCell ⟨V,j,none⟩ (.bool (od||bt))) V 4 (bvs ((List.range nm).map (fun l=>if l<j+1 then eJ CF (set.take ((i'+1)+1)) l else eJ CF (set.take (i'+1)) l)))):=I (by
            have:=V7.o.set j (.bool (od||bt));have e:=YN (f:=eJ CF (set.take (i'+1))) (g:=eJ CF (set.take ((i'+1)+1))) rM;rw[Gs.o] at e
            rwa [<- zY,e] at this)
           have Jy:=I (Jw.o.setCell (a:=⟨V,j,none⟩) (.bool (od||bt)) rfl);clear mW Za V7 Jw
           cases od with
           | true =>
            go_upto_region 14 with(fail)
            clear vc vf iR;simp only[Bool.true_or] at Co Jy;generalize wr.setCell ⟨V,j,none⟩ (.bool true)=w8 at *
            go_wp2_with fail
            go_roundw
            case rel=>exact⟨j+1,by go_num,by omega,Co,Jy⟩
            case measure=>simp only[intOf];omega
           | false =>
            go_upto_region 14 with(fail)
            clear vc vf iR;simp only[Bool.false_or] at Co Jy;generalize wr.setCell ⟨V,j,none⟩ (.bool bt)=w8 at *
            go_wp2_with fail
            go_roundw
            case rel=>exact⟨j+1,by go_num,by omega,Co,Jy⟩
            case measure=>simp only[intOf];omega
          ·have jj:¬ (j:Int)<nm:=by omega
           obtain rfl:nm=j:=by omega
           have V9:Hid (aC wr V 4 (bvs ((List.range nm).map (eJ CF (set.take ((i'+1)+1)))))):=I (by
            have:=V7.o;have e:(List.range nm).map (fun l=>if l<nm then eJ CF (set.take ((i'+1)+1)) l else eJ CF (set.take (i'+1)) l)=(List.range nm).map (eJ CF (set.take ((i'+1)+1))):=List.map_congr_left (fun l hl=>if_pos (List.mem_range.1 hl))
            rwa [e] at this)
           have sQ:Hid (∀ j,j<(i'+1)+1->jF c set j=true):=I (fun j hj=>by
            rcases gQ j (i'+1) with h | h
            ·exact HJ.o j h
            ·obtain rfl:j=(i'+1):=by omega
             exact tB.o)
           go_wp2_with fail
           go_roundw
           case rel=>first | exact⟨_,_,_,_,_,_,⟨(i'+1)+1,by go_num,by omega,sQ,V9⟩,rfl,rfl,rfl,rfl,rfl,rfl⟩ | exact⟨_,_,_,_,_,_,⟨(i'+1)+1,by go_num,by omega,sQ,V9,Jw⟩,rfl,rfl,rfl,rfl,rfl,rfl⟩
           case measure=>simp only[intOf];omega
        ·have tB:Hid (jF c set (i'+1)=false):=I (by rw[yC.o,decide_eq_false uZ,Bool.and_false])
         clear yC
         go_upto_region 8 with(fail)
         refine wp_region_quiet_below (by kernel_rfl) (by kernel_rfl) ?_
         repeat (go_big_quiet_step (with_reducible (exact r1 _ _)))
         refine wpQuiet_nil ?_;intro _ bM;obtain⟨⟨dq,osq⟩,dF⟩:=bM;subst dF;have BQ:=I (below_regrown wr dq osq);clear r1 Qr c2 si gB s0 Cc uk uk' si' sp sp' u0 Zg;generalize grow (redrawn wr dq) osq=wy at *
         go_wp2_with fail
         go_ret;exact⟨by rw[oD.o (i'+1) aT tB.o];rfl,B4.o.trans (BQ.o.mono B4.o.size)⟩
       ·have we:(k:Int)<=y:=by omega
        have tB:Hid (jF c set (i'+1)=false):=I (by rw[yC.o,decide_eq_false KF];rfl);clear yC
        go_upto_region 8 with(fail)
        refine wp_region_quiet_below (by kernel_rfl) (by kernel_rfl) ?_
        repeat (go_big_quiet_step (with_reducible (exact r1 _ _)))
        refine wpQuiet_nil ?_;intro _ bM;obtain⟨⟨dq,osq⟩,dF⟩:=bM;subst dF;have BQ:=I (below_regrown wr dq osq);clear r1 Qr c2 si gB s0 Cc uk uk' si' sp sp' u0 Zg;generalize grow (redrawn wr dq) osq=wy at *
        go_wp2_with fail
        go_ret;exact⟨by rw[oD.o (i'+1) aT tB.o];rfl,B4.o.trans (BQ.o.mono B4.o.size)⟩
    ·have ii:¬ (i:Int)<ns:=by omega
     obtain rfl:ns=i:=by omega
     have pI:Hid (set.take ns=set):=I (List.take_of_length_le (by rw[sY.o];exact aO _));have V5:Hid (aC wr V 4 (bvs ((List.range nm).map (eJ CF set)))):=I (by have:=V4.o;rwa [pI.o] at this);have Zh:=I (bK.o (by rw[List.all_eq_true];exact fun j hj=>HJ.o j (List.mem_range.1 hj)));have jr:=I (HJ.o 0 (by omega));obtain⟨x0,mG⟩:∃ x,set[0]?=some x:=⟨_,aL (by rw[sY.o];omega)⟩;have Zb:Hid (set.getD 0 0=x0):=I (by rw[bR,mG];rfl)
     have tC:cM x0 nu=true:=by
      have:=jr.o;unfold jF at this;rw[Zb.o,dZ.o] at this;simp only[dB] at this;exact this.1.1
     obtain⟨k0,yV,hk0n⟩:=oZ tC;subst yV;obtain⟨Cz,tD⟩:∃ y,c.us[k0]?=some y:=⟨_,aL (by rw[dZ.o];exact hk0n)⟩;have I5:=Le ((tL lD.o).2.2.2.2.2 Cz (bU tD));obtain⟨n0,hn0w⟩:∃ n:Nat,Cz.w=(n:Int):=⟨Cz.w.toNat,by omega⟩
     have Yr:Hid ((pY c (set.getD 0 0)).toNat=n0):=I (by
      rw[Zb.o];show(c.us.getD k0 ⟨0,0,0,0⟩).w.toNat=n0;rw[bR,tD];show Cz.w.toNat=n0
      omega)
     have hn0b:n0<=15:=by omega
     obtain⟨gs,os,Mr,Ln,Yy⟩:=(oQ.o wr B4.o).at jN 0 (k0:Int) mG;have s0:=Yy 0 _ rfl;obtain⟨gu,ou,eV,iZ,cF⟩:=(jJ.o wr B4.o).at mN k0 Cz tD;have u0:=cF 1 _ rfl;rw[hn0w] at u0;rw[Nat.mul_one,Nat.add_zero] at s0;subst Mr;subst eV;have X5:=I (X3.o.only ON.o (by have:=KD.o;omega))
     have zz:(0:Int)<ns:=by omega
     have H9:(k0:Int)<nu:=by omega
     have S0:=I (fun W (hW:Below wr.heap.size wr W)=>(show W.cell? ⟨gs,os,none⟩=some (.int .i64 (k0:Int)) by rw[rJ (w:=wr) (a:=⟨gs,os,none⟩) (hW.block gs Ln)];exact s0));have U0:=I (fun W (hW:Below wr.heap.size wr W)=>(show W.cell? ⟨gu,ou+k0*4+1,none⟩=some (.int .i64 (n0:Int)) by rw[rJ (w:=wr) (a:=⟨gu,ou+k0*4+1,none⟩) (hW.block gu iZ)];exact u0))
     have Xh:Hid (∀ (k:Nat) (m:Mem),c.ms[k]?=some m->0<=eI m.t n0/\eI m.t n0<=4096/\m.t.length<=16):=I (fun k m hm=>by
      have h1:=FC ((tL lD.o).2.2.2.2.1 m (bU hm));unfold eI;rw[bR];by_cases h2:n0<m.t.length
      ·rw[aL h2]
       have:=h1.1 _ (List.getElem_mem h2);exact⟨this.1,this.2,h1.2⟩
      ·rw[List.getElem?_eq_none (by omega)]
       exact⟨Int.le_refl _,by show(0:Int)<=4096;omega,h1.2⟩)
     clear Yy cF mG tD tC I5 hn0w Ln iZ s0 u0 V4 jr;obtain⟨wq,KG⟩:=exq (wr);have wg:Hid (Below wr.heap.size wr wr):=I (aG _ _);rw[KG] at V5 X5 S0 U0 B4 wg ⊢;clear KG Uo ON
     go_wp2_with fail
     have Pw:Hid (nH c CF set 0=0):=I rfl
     go_loopw [108,16] (fun kv rv ws=>∃ (k:Nat) (r:Int),kv = .int .i64 k/\rv = .int .i64 r/\k<=nm/\0<=r/\r<=4096*(k:Int)/\Hid (nH c CF set k=r)/\Hid (Below wq.heap.size wq ws)) (fun k _ _=>(nm-intOf k).toNat)
     case atStart=>exact⟨0,0,rfl,rfl,by omega,by omega,by omega,Pw,wg⟩
     case round =>
      clear Pw wg;obtain⟨k,r,rfl,rfl,hk,rO,hr1,mD,BW⟩:=hrel;have e5:=w1i k (by omega);by_cases bT:k<nm
      ·have kk:(k:Int)<nm:=by omega
       have vc:=(V5.o.step BW.o).cell k (.bool (eJ CF set k)) (by
        unfold bvs
        rw[dK,dK,List.getElem?_range bT];rfl)
       obtain⟨m2,kN⟩:∃ y,c.ms[k]?=some y:=⟨_,aL (by rw[fF.o];exact bT)⟩
       have tT:Hid (nH c CF set (k+1)=r+(if eJ CF set k=true then eI m2.t n0 else 0)):=I (by
        show nH c CF set k+(if eJ CF set k=true then eI (c.ms.getD k ⟨[],[],0⟩).t (pY c (set.getD 0 0)).toNat else 0)=_
        rw[mD.o,Yr.o,bR (l:=c.ms),kN];rfl)
       obtain⟨ab,uF⟩:=exq (eJ CF set k);rw[uF] at vc tT;clear uF
       cases ab with
       | false =>
        have yD:Hid (nH c CF set (k+1)=r):=I (by rw[tT.o];simp);clear tT mD
        go_wp2_with fail
        clear vc;go_roundw
        case rel=>exact⟨k+1,r,by go_num,rfl,by omega,rO,by omega,yD,BW⟩
        case measure=>simp only[intOf];omega
       | true =>
        obtain⟨Bl,vX,yU⟩:=Xh.o k m2 kN;have yD:Hid (nH c CF set (k+1)=r+eI m2.t n0):=I (by rw[tT.o,if_pos rfl]);obtain⟨gm,om,tg,lC,gI,dX,aH⟩:=(nA.o wr (B4.o.trans (BW.o.mono B4.o.size))).at k m2 kN;have wL:=I (fun W (hW:Below wr.heap.size wr W)=>ni W m2 _ (dX.below hW) n0 (by omega) (by omega));have yY:=I dX;obtain⟨mbo,mbc,mto,mtc,rfl,-,-⟩:=dX;have r1:=UA wr (fun W hW=>wL.o W hW);have m0c:=aH 0 _ rfl;have m1c:=aH 1 _ rfl;have m2c:=aH 2 _ rfl;rw[Nat.add_zero] at m0c;subst lC;have c1:=(X5.o.step BW.o).cell 1 _ rfl;have c2:=(X5.o.step BW.o).cell 2 _ rfl;have s0:=S0.o wr BW.o;have u0:=U0.o wr BW.o;have I6:=cell_regrown c1;have Qr:=cell_regrown c2;have Cc:=cell_regrown s0;have Zg:=cell_regrown u0;have m0c':=cell_regrown m0c;have m1c':=cell_regrown m1c;have m2c':=cell_regrown m2c;clear tT mD aH gI kN wL yY;generalize eI m2.t n0=tk at *;generalize m2.b.length=nb at *;generalize m2.t.length=nt at *;generalize m2.r=mr at *;have e6:IntKind.i64.wrap (r+tk)=r+tk:=fU _ (by omega)
        go_upto_region 21 with(fail)
        refine wp_region_quiet_below (by kernel_rfl) (by kernel_rfl) ?_
        repeat (go_big_quiet_step (with_reducible (exact r1 _ _)))
        refine wpQuiet_nil ?_;intro _ bM;obtain⟨⟨dq,osq⟩,dF⟩:=bM;subst dF;have BQ:=I (below_regrown wr dq osq);clear r1 I6 Qr c1 c2 s0 u0 Cc Zg m0c m1c m2c m0c' m1c' m2c' vc;have I7:=BW.tr BQ.o;clear BQ BW;generalize grow (redrawn wr dq) osq=wy at *
        go_wp2_with fail
        go_roundw
        case rel=>exact⟨k+1,r+tk,by go_num,rfl,by omega,by omega,by omega,yD,I7⟩
        case measure=>simp only[intOf];omega
      ·have kk:¬ (k:Int)<nm:=by omega
       obtain rfl:nm=k:=by omega
       have rY:=B4.tr BW.o;rw[mD.o] at Zh;by_cases KH:r<(ns:Int)
       ·rw[decide_eq_true KH] at Zh
        go_wp2_with fail
        go_ret;exact⟨by rw[Zh.o];rfl,rY.o⟩
       ·rw[decide_eq_false KH] at Zh
        have I8:(ns:Int)<=r:=by omega
        go_wp2_with fail
        go_ret;exact⟨by rw[Zh.o];rfl,rY.o⟩
end
end Go.Proofs.YtbcgocpihobjnaaGreatDoor
