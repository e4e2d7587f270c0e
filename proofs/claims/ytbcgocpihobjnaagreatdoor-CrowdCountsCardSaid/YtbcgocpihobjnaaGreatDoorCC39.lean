import Derived.Test.YtbcgocpihobjnaaGreatDoorCC38
set_option linter.all false
set_option maxHeartbeats 16000000
set_option maxRecDepth 100000
namespace Go.Proofs.YtbcgocpihobjnaaGreatDoor
section
open Go.RowKit Go.Sort Go.Maps
def Zcf(c:Crw)(x:Use):Crw:=⟨c.qs,c.ms,c.us++[x]⟩
def Z0g(WS:Nat)(W:World)(bo:Option Addr)(RX:List Bool):Prop:=∃ V,bo=some ⟨V,0,none⟩/\WS<=V/\Zae W V 4 (bvs RX)
theorem Z0g.below{WS:Nat}{w w':World}{bo:Option Addr}{RX:List Bool}(h:Z0g WS w bo RX)(hb:Below w.heap.size w w'):Z0g WS w' bo RX:=by
 obtain⟨V,h1,h2,h3⟩:=h;exact⟨V,h1,h2,h3.step hb⟩
theorem Z0g.flat{WS X:Nat}{w w':World}{bo:Option Addr}{RX:List Bool}(h:Z0g WS w bo RX)(on:Only w w' (· = X))(hx:X<WS):Zan Zc5 w' bo RX:=by
 obtain⟨V,rfl,h2,h3⟩:=h;exact(h3.only on (by omega)).flatB
theorem Z3n(t:Array Value)(h:t.size=43):∃ f:Nat->Value,t=#[f 0,f 1,f 2,f 3,f 4,f 5,f 6,f 7,f 8,f 9,f 10,f 11,f 12,f 13,f 14,f 15,f 16,f 17,f 18,f 19,f 20,f 21,f 22,f 23,f 24,f 25,f 26,f 27,f 28,f 29,f 30,f 31,f 32,f 33,f 34,f 35,f 36,f 37,f 38,f 39,f 40,f 41,f 42]:=by
 obtain⟨l⟩:=t;have hl:l.length=43:=h
 have e:l=(List.range 43).map (fun i=>l.getD i undef):=by
  apply List.ext_getElem
  ·simp[hl]
  ·intro i h1 h2
   simp[List.getD,h1]
 exact⟨fun i=>l.getD i undef,congrArg List.toArray e⟩
def Z23(A X sb WS:Nat)(uo:Option Addr)(nu uc:Nat)(us:List Value)(u0 u1 u2 u3:Int)(i:Nat)(W:World)(v:Value):Prop:=match i with
 | 0=>v = .pointer (some ⟨X,0,none⟩)
 | 1=>v = .pointer (some ⟨A,0,none⟩)
 | 2=>v = .pointer (some ⟨A,0,none⟩)
 | 3=>v = .pointer (some ⟨A,0,none⟩)
 | 4=>v = .pointer (some ⟨A,2,none⟩)
 | 5=>v = .slice uo nu uc
 | 6=>v = .slice uo nu nu
 | 7=>v = .agg #[.int .i64 u0,.int .i64 u1,.int .i64 u2,.int .i64 u3]
 | 8=>∃ V,v = .slice (some ⟨V,0,none⟩) 1 1/\Zae W V 39 [.int .i64 u0,.int .i64 u1,.int .i64 u2,.int .i64 u3]
 | 9=>∃ g cap,v = .slice (some ⟨g,0,none⟩) (nu+1) cap/\OwnK W WS 4 (nu+1) cap (us++[.int .i64 u0,.int .i64 u1,.int .i64 u2,.int .i64 u3]) (some ⟨g,0,none⟩)
 | _=>True
theorem Zw6(A X sb WS:Nat)(uo:Option Addr)(nu uc:Nat)(us:List Value)(u0 u1 u2 u3:Int):∀ i w w' v,Z23 A X sb WS uo nu uc us u0 u1 u2 u3 i w v->Below w.heap.size w w'->Z23 A X sb WS uo nu uc us u0 u1 u2 u3 i w' v:=by
 intro i w w' v h hb
 match i with
 | 0=>exact h
 | 1=>exact h
 | 2=>exact h
 | 3=>exact h
 | 4=>exact h
 | 5=>exact h
 | 6=>exact h
 | 7=>exact h
 | 8=>obtain⟨V,h1,h2⟩:=h;exact⟨V,h1,h2.step hb⟩
 | 9=>obtain⟨g,cap,h1,h2⟩:=h;exact⟨g,cap,h1,h2.below hb⟩
 | k+10=>trivial
def Z2o(A X sb WS:Nat)(co:Option Addr)(nc cc nm:Nat)(RX:List Bool)(vals:List Value)(u0 u1 u2 u3:Int)(i:Nat)(W:World)(v:Value):Prop:=match i with
 | 0=>v = .pointer (some ⟨X,0,none⟩)
 | 1=>v = .pointer (some ⟨A,0,none⟩)
 | 2=>v = .pointer (some ⟨A,0,none⟩)
 | 3=>v = .pointer (some ⟨A,4,none⟩)
 | 4=>v = .slice co nc cc
 | 5=>v = .slice co nc nc
 | 6=>v = .pointer (some ⟨A,0,none⟩)
 | 7=>v = .agg #[.int .i64 u0,.int .i64 u1,.int .i64 u2,.int .i64 u3]
 | 8=>∃ bo,v = .slice bo nm nm/\Z0g WS W bo RX
 | 9=>∃ V bo,v = .slice (some ⟨V,0,none⟩) 1 1/\Zae W V 87 [.slice bo nm nm]/\Z0g WS W bo RX
 | 10=>∃ g cap bo,v = .slice (some ⟨g,0,none⟩) (nc+1) cap/\OwnK W WS 1 (nc+1) cap (vals++[.slice bo nm nm]) (some ⟨g,0,none⟩)/\Z0g WS W bo RX
 | _=>True
theorem Zw7(A X sb WS:Nat)(co:Option Addr)(nc cc nm:Nat)(RX:List Bool)(vals:List Value)(u0 u1 u2 u3:Int):∀ i w w' v,Z2o A X sb WS co nc cc nm RX vals u0 u1 u2 u3 i w v->Below w.heap.size w w'->Z2o A X sb WS co nc cc nm RX vals u0 u1 u2 u3 i w' v:=by
 intro i w w' v h hb
 match i with
 | 0=>exact h
 | 1=>exact h
 | 2=>exact h
 | 3=>exact h
 | 4=>exact h
 | 5=>exact h
 | 6=>exact h
 | 7=>exact h
 | 8=>obtain⟨bo,h1,h2⟩:=h;exact⟨bo,h1,h2.below hb⟩
 | 9=>obtain⟨V,bo,h1,h2,h3⟩:=h;exact⟨V,bo,h1,h2.step hb,h3.below hb⟩
 | 10=>obtain⟨g,cap,bo,h1,h2,h3⟩:=h;exact⟨g,cap,bo,h1,h2.below hb,h3.below hb⟩
 | k+11=>trivial
theorem Zj1:(Tryz.prog.info? 39).map (fun i=>(i.zero,i.size,i.bytes))=some (some (.agg #[.int .i64 0,.int .i64 0,.int .i64 0,.int .i64 0]),4,32):=by kernel_rfl
theorem Zr8(w:World)(A:Nat)(c:Crw)(H C:List (List Bool))(x:Use)(hr:Zbo w A c H C)(hq0:0<=x.q)(hq1:x.q.toNat<H.length)(hH:∀ r∈H,r.length=c.ms.length)(hm:c.ms.length<=1000000)(hu:c.us.length<=1000000)(hC:C.length<=1000000) :
  Calls Tryz.prog 109 #[.pointer (some ⟨A,0,none⟩),.agg (Zcg x).toArray] w fun e w'=>∃ X,e = .returned (.pointer (some ⟨X,0,none⟩))/\Zbo w' X (Zcf c x) H (C++[Zeo c H x])/\w.heap.size<=X/\Below w.heap.size w w':=by
 have HRO:=ħ (fun W (hW:Below w.heap.size w W)=>Zwq W A c H C x (hr.below hW) hq0 hq1 hH hm);have HRL:Hid ((Zeo c H x).length=c.ms.length):=ħ (Zf0 c H x);obtain⟨qo,mo,uo,ho,co,qc,mc,uc,hc,cc,hA,hR,hcu,hcc⟩:=hr;obtain⟨vals,hvl,hvs,hvn,hvr⟩:=Zo7 hR.c
 have HFIN:Hid (∀ w' X uo' uc' co' cc' bo,Below w.heap.size w w'->Zae w' X 113 (Ze0 (Zcf c x) H (C++[Zeo c H x]) qo mo uo' ho co' qc mc uc' hc cc')->OwnK w' w.heap.size 4 (c.us.length+1) uc' (c.us.flatMap Zcg++Zcg x) uo'->OwnK w' w.heap.size 1 (C.length+1) cc' (vals++[.slice bo c.ms.length c.ms.length]) co'->Zan Zc5 w' bo (Zeo c H x)->Zbo w' X (Zcf c x) H (C++[Zeo c H x])):=ħ (fun w' X uo' uc' co' cc' bo hb hX hU hK hf=>by
  have h8:=hR.below hb;refine⟨qo,mo,uo',ho,co',qc,mc,uc',hc,cc',hX,⟨h8.q,h8.m,?_,h8.h,?_⟩,?_,?_⟩
  ·have e:c.us.flatMap Zcg++Zcg x=(Zcf c x).us.flatMap Zcg:=by unfold Zcf;simp
   rw[e] at hU;exact hU.flatR Zbj (by unfold Zcf;simp)
  ·cases hK with
   | «at» g off h1 h2 h3 h4 =>
    refine .inr ⟨g,off,rfl,h1.lt,fun i row hi=>?_⟩;rcases đw i C.length with h | h
    ·rw[List.getElem?_append_left h] at hi
     obtain⟨bo',bc',h5,h6⟩:=hvs i row hi;exact⟨bo',bc',h1.cells i _ (by rw[List.getElem?_append_left (by rw[hvl];exact h)];exact h5),h6.below hb⟩
    ·rw[List.getElem?_append_right h] at hi
     have hi0:i-C.length=0:=by
      have:=(đg.1 hi).1;simp at this;omega
     rw[hi0] at hi
     obtain rfl:Zeo c H x=row:=by simpa using hi
     refine⟨bo,c.ms.length,h1.cells i _ ?_,hf⟩;rw[List.getElem?_append_right (by rw[hvl];exact h),hvl,hi0,HRL.o];rfl
   | nil h1 h2 h3=>simp at h1
  ·unfold Zcf
   rw[đn]
   cases hU with
   | nil _ h _=>omega
   | «at» g off h1 h2 h3 h4=>exact h4
  ·rw[đn]
   cases hK with
   | nil _ h _=>omega
   | «at» g off h1 h2 h3 h4=>exact h4)
 have AW:=ħ (fun W (hW:Below w.heap.size w W)=>hA.step hW);unfold Ze0 at AW
 have HUN:Hid (uo=none->c.us.length=0):=ħ (fun e=>by
  rcases hR.u with h | ⟨g,off,h,-⟩
  ·rw[h];rfl
  ·rw[e] at h;cases h)
 have HUR:Hid (c.us.flatMap Zcg=[]\/∃ g off,uo=some ⟨g,off,none⟩/\g<w.heap.size/\Zav w g off (c.us.flatMap Zcg)):=ħ (by
  rcases hR.u with h | h
  ·rw[h];exact .inl rfl
  ·exact .inr h)
 have HUL:Hid ((c.us.flatMap Zcg).length=c.us.length*4):=ħ (Zb9 Zcg 4 Zbj c.us)
 have HVR:Hid (vals=[]\/∃ g off,co=some ⟨g,off,none⟩/\g<w.heap.size/\Zav w g off vals):=ħ (by
  rcases hvr with h | h
  ·exact .inl (List.length_eq_zero_iff.1 (by rw[hvl];exact h))
  ·exact .inr h)
 have HVN:=ħ hvn;have HVL:Hid (vals.length=C.length*1):=ħ (by rw[hvl,Nat.mul_one]);have HCU:=ħ hcu;have HCC:=ħ hcc;clear hA hR hvl hvs hvn hvr hcu hcc hq0 hq1 hH;have HWU:Hid ((Zcf c x).us.length=c.us.length+1):=ħ (by unfold Zcf;simp);have HWC:Hid ((C++[Zeo c H x]).length=C.length+1):=ħ (by simp);generalize hRX:Zeo c H x=RX at *;clear hRX;have HRV:Hid (∀ uo' uc' co' cc',Ze0 (Zcf c x) H (C++[RX]) qo mo uo' ho co' qc mc uc' hc cc'=[.slice qo c.qs.length qc,.slice mo c.ms.length mc,.slice uo' (c.us.length+1) uc',.slice ho H.length hc,.slice co' (C.length+1) cc']):=ħ (fun uo' uc' co' cc'=>by unfold Ze0;rw[HWU.o,HWC.o];rfl);have HUX:Hid (Zcg x=[.int .i64 x.q,.int .i64 x.w,.int .i64 x.f,.int .i64 x.h]):=ħ rfl;generalize hUX:Zcg x=ux at *;have HUX2:=ħ hUX;clear hUX HWU HWC;generalize c.us.flatMap Zcg=us at *;generalize c.qs.length=nq at *;generalize c.ms.length=nm at *;generalize c.us.length=nu at *;generalize H.length=nh at *;generalize C.length=nc at *;obtain rfl:=HUX.o;generalize x.q=u0 at *;generalize x.w=u1 at *;generalize x.f=u2 at *;generalize x.h=u3 at *;clear HUX
 go_enter Tryz.func109,Tryz.ntmps109
 go_upto_region 1 with(fail)
 obtain⟨sb,hsb⟩:∃ y,w.heap.size=y:=⟨_,rfl⟩;have HSB:=ħ hsb;have X1:Hid (Zae (w.alloc (.cells #[.int .i64 u0,.int .i64 u1,.int .i64 u2,.int .i64 u3] 39)) sb 39 [.int .i64 u0,.int .i64 u1,.int .i64 u2,.int .i64 u3]):=ħ (Zae.newAt _ _ _ _ hsb.symm);have B1:=ħ ((đc w.heap.size w).alloc (đd _) (.cells #[.int .i64 u0,.int .i64 u1,.int .i64 u2,.int .i64 u3] 39));rw[hsb];clear hsb;generalize w.alloc (.cells #[.int .i64 u0,.int .i64 u1,.int .i64 u2,.int .i64 u3] 39)=w1 at *;refine Za8 [0,1,2,3,4,5,6,7,8] [9,10] (fun w'=>Zae w' A 113 [.slice qo nq qc,.slice mo nm mc,.slice uo nu uc,.slice ho nh hc,.slice co nc cc]) (by kernel_rfl) (by kernel_rfl) (by kernel_rfl) (fun _ _ d _ _ h=>by cases d<;>exact h) ((AW.o w1 B1.o).step (đc _ _).drew) ?_;simp only[Zb6,List.filterMap_cons,List.filterMap_nil,List.getElem?_cons_zero,List.getElem?_cons_succ,Option.map_some,List.map_cons,List.map_nil];apply Exists.intro;refine⟨?hh,?ht⟩
 case hh =>
  intro w' hw';have c0:=hw'.cell 0 _ rfl;have c1:=hw'.cell 1 _ rfl;have c2:=hw'.cell 2 _ rfl;have c3:=hw'.cell 3 _ rfl;clear hw'
  repeat still_step
  exact wpStill_nil rfl
 case ht =>
  have BD:=(đc w1.heap.size w1).drew;have X2:=ħ (X1.o.step BD);have B2:=ħ (B1.o.trans (BD.mono B1.o.size));clear BD X1 B1;generalize w1.drew=w2 at *;have A2:=AW.o w2 B2.o;have bx:=(đc w2.heap.size w2).alloc (đd _) (.cells #[.slice qo nq qc,.slice mo nm mc,.slice uo nu uc,.slice ho nh hc,.slice none 0 0] 113);refine Zah ?_
  go_wp2_with fail
  refine Zaa ⟨A2.step bx,?_⟩;obtain⟨X,hX⟩:∃ y,w2.heap.size=y:=⟨_,rfl⟩;have XV:Hid (Zae (w2.alloc (.cells #[.slice qo nq qc,.slice mo nm mc,.slice uo nu uc,.slice ho nh hc,.slice none 0 0] 113)) X 113 [.slice qo nq qc,.slice mo nm mc,.slice uo nu uc,.slice ho nh hc,.slice none 0 0]):=ħ (Zae.newAt _ _ _ _ hX.symm);have X3:=ħ (X2.o.step bx);have B3:=ħ (B2.o.trans (bx.mono B2.o.size));have HXX:Hid (w.heap.size<=X/\sb<X):=ħ ⟨by rw[<- hX];exact B2.o.size,by rw[<- hX];exact X2.o.lt⟩;rw[hX];clear bx A2 hX X2 B2;generalize w2.alloc (.cells #[.slice qo nq qc,.slice mo nm mc,.slice uo nu uc,.slice ho nh hc,.slice none 0 0] 113)=w3 at *;refine Zbu ?_
  go_upto_region 2 with(fail)
  have HCLU:=ħ (fun W=>Zw4 W uo nu uc HCU.o HUN.o);have HCLB:=ħ (fun W=>Zw5 W co nc cc HCC.o HVN.o);have HB:=B3;have XS:=X3;refine Za2 10 3 (Z23 A X sb w3.heap.size uo nu uc us u0 u1 u2 u3) (by kernel_rfl) rfl (Zw6 A X sb w3.heap.size uo nu uc us u0 u1 u2 u3) (Zbr (by kernel_rfl)) (Zeh (by kernel_rfl)) (Zax (by kernel_rfl)) (Zck (by kernel_rfl)) ?hs ?he
  case hs =>
   intro i o hin hi listed a' w' H hsn hl2;have hl3:=Zap hl2;have hb:=ħ H.below;have s5:=hsn 5 (Zak (by kernel_rfl));have s0:=hsn 0 (Zak (by kernel_rfl));have s3:=hsn 3 (Zak (by kernel_rfl));have hdn:=H.done;have hdf:=H.defers;have hts:=H.tsize;clear hl2 H hsn;obtain⟨t',df⟩:=a';obtain⟨f',rfl⟩:=Z3n t' hts;have hdf':df=[]:=hdf;subst hdf';have gs5:f' 5 = .pointer (some ⟨X,0,none⟩):=s5;have gs0:f' 0 = .pointer (some ⟨A,0,none⟩):=s0;have gs3:f' 3 = .pointer (some ⟨sb,0,none⟩):=s3;clear s5 s0 s3;clear hdf hts;have hcases:i=0\/i=1\/i=2\/i=3\/i=4\/i=5\/i=6\/i=7\/i=8\/i=9:=Zdb i hin;clear hin;rcases hcases with rfl | rfl | rfl | rfl | rfl | rfl | rfl | rfl | rfl | rfl
   ·obtain rfl:=đa hi
    clear hdn hl3;rw[gs5];clear gs5 gs0 gs3;refine Zab rfl ?_
    go_wp2_with fail
    exact Zaa ⟨_,rfl,đc _ _,rfl⟩
   ·obtain rfl:=đa hi
    clear hdn hl3;rw[gs0];clear gs5 gs0 gs3;refine Zab rfl ?_
    go_wp2_with fail
    exact Zaa ⟨_,rfl,đc _ _,rfl⟩
   ·obtain rfl:=đa hi
    have dv1:f' 17 = .pointer (some ⟨A,0,none⟩):=hdn 1 _ 17 rfl (hl3 1 (by rfl)) rfl;clear hdn hl3;rw[dv1];clear dv1 gs5 gs0 gs3;refine Zab rfl ?_
    go_wp2_with fail
    exact Zaa ⟨_,rfl,đc _ _,rfl⟩
   ·obtain rfl:=đa hi
    have dv2:f' 18 = .pointer (some ⟨A,0,none⟩):=hdn 2 _ 18 rfl (hl3 2 (by rfl)) rfl;clear hdn hl3;rw[dv2];clear dv2 gs5 gs0 gs3;refine Zab rfl ?_
    go_wp2_with fail
    exact Zaa ⟨_,rfl,đc _ _,rfl⟩
   ·obtain rfl:=đa hi
    have dv3:f' 19 = .pointer (some ⟨A,0,none⟩):=hdn 3 _ 19 rfl (hl3 3 (by rfl)) rfl;clear hdn hl3;rw[dv3];clear dv3 gs5 gs0 gs3;refine Zab rfl ?_
    go_wp2_with fail
    exact Zaa ⟨_,rfl,đc _ _,rfl⟩
   ·obtain rfl:=đa hi
    have dv4:f' 20 = .pointer (some ⟨A,2,none⟩):=hdn 4 _ 20 rfl (hl3 4 (by rfl)) rfl;clear hdn hl3;rw[dv4];clear dv4 gs5 gs0 gs3;have ha:=AW.o w' (HB.o.trans (hb.o.mono HB.o.size));have c2:=ha.cell 2 _ rfl;clear ha;refine Zab rfl ?_
    go_wp2_with fail
    exact Zaa ⟨_,rfl,đc _ _,rfl⟩
   ·obtain rfl:=đa hi
    have dv5:f' 21 = .slice uo nu uc:=hdn 5 _ 21 rfl (hl3 5 (by rfl)) rfl;clear hdn hl3;rw[dv5];clear dv5 gs5 gs0 gs3;refine Zab rfl ?_
    go_wp2_with fail
    refine(HCLU.o w').mono ?_;rintro e w4 ⟨rfl,rfl⟩
    go_wp2_with fail
    exact Zaa ⟨_,rfl,đc _ _,rfl⟩
   ·obtain rfl:=đa hi
    clear hdn hl3;rw[gs3];clear gs5 gs0 gs3;have hx:=XS.o.step hb.o;have p0:=hx.cell 0 _ rfl;have p1:=hx.cell 1 _ rfl;have p2:=hx.cell 2 _ rfl;have p3:=hx.cell 3 _ rfl;clear hx;refine Zab rfl ?_
    go_wp2_with fail
    exact Zaa ⟨_,rfl,đc _ _,rfl⟩
   ·obtain rfl:=đa hi
    have dv7:f' 23 = .agg #[.int .i64 u0,.int .i64 u1,.int .i64 u2,.int .i64 u3]:=hdn 7 _ 23 rfl (hl3 7 (by rfl)) rfl;clear hdn hl3;rw[dv7];clear dv7 gs5 gs0 gs3;have bx:=(đc w'.heap.size w').alloc (đd _) (.cells #[.int .i64 u0,.int .i64 u1,.int .i64 u2,.int .i64 u3] 39);have HV:Hid (Zae (w'.alloc (.cells #[.int .i64 u0,.int .i64 u1,.int .i64 u2,.int .i64 u3] 39)) w'.heap.size 39 [.int .i64 u0,.int .i64 u1,.int .i64 u2,.int .i64 u3]):=ħ (heap_alloc_new _ _);have BX:=ħ bx;clear bx;refine Zab rfl ?_
    go_wp2_with fail
    exact Zaa ⟨_,rfl,BX.o,w'.heap.size,rfl,HV.o⟩
   ·obtain rfl:=đa hi
    have dv6:f' 22 = .slice uo nu nu:=hdn 6 _ 22 rfl (hl3 6 (by rfl)) rfl;have dv8:Z23 A X sb w3.heap.size uo nu uc us u0 u1 u2 u3 8 w' (f' 24):=hdn 8 _ 24 rfl (hl3 8 (by rfl)) rfl;obtain⟨V,dv8,hV⟩:=dv8;clear hdn hl3;rw[dv6,dv8];clear dv6 dv8 gs5 gs0 gs3;have HV:=ħ hV;clear hV;have HBW:=ħ (HB.o.trans (hb.o.mono HB.o.size))
    have HUR4:Hid (us=[]\/∃ g off,uo=some ⟨g,off,none⟩/\g<w'.heap.size/\Zav w' g off us):=ħ (by
     rcases HUR.o with h | ⟨g,off,h1,h2,h3⟩
     ·exact .inl h
     ·exact .inr ⟨g,off,h1,đm h2 HBW.o.size,h3.of_block (HBW.o.block g h2)⟩)
    refine Zab rfl ?_;refine Zj0 24 39 (.agg #[.int .i64 0,.int .i64 0,.int .i64 0,.int .i64 0]) 4 32 Tryz.underlying24 Zj1 rfl (by omega) (by omega) w' rfl (.tmp 22) (.tmp 24) rfl uo nu us ?q1 HUN.o HUL.o HUR4.o V 1 1 [.int .i64 u0,.int .i64 u1,.int .i64 u2,.int .i64 u3] 39 ?q2 HV.o rfl (by omega) ?q3 ?q4 ?_
    case q1=>rfl
    case q2=>rfl
    case q3=>simp[Value.oneCell']
    case q4=>omega
    intro g5 c5 wa o8 b8;have O5:=ħ (o8.low hb.o.size);have B5:=ħ b8;clear o8 b8
    go_wp2_with fail
    exact Zaa ⟨_,rfl,B5.o,g5,c5,rfl,O5.o⟩
  case he =>
   intro listed a' w4 H hsn hall;have hd0:Z23 A X sb w3.heap.size uo nu uc us u0 u1 u2 u3 0 w4 (a'.tmps.getD 16 undef):=H.done 0 _ 16 rfl (hall 0 (by decide)) rfl;have hd9:Z23 A X sb w3.heap.size uo nu uc us u0 u1 u2 u3 9 w4 (a'.tmps.getD 25 undef):=H.done 9 _ 25 rfl (hall 9 (by decide)) rfl;have hb4:=ħ H.below;have hact:=H.actN hsn [16,17,18,19,20,21,22,23,24,25] (Zej (by kernel_rfl));clear H hall hsn;simp only[List.foldl_cons,List.foldl_nil] at hact;generalize a'.tmps.getD 16 undef=z16 at *;generalize a'.tmps.getD 17 undef=z17 at *;generalize a'.tmps.getD 18 undef=z18 at *;generalize a'.tmps.getD 19 undef=z19 at *;generalize a'.tmps.getD 20 undef=z20 at *;generalize a'.tmps.getD 21 undef=z21 at *;generalize a'.tmps.getD 22 undef=z22 at *;generalize a'.tmps.getD 23 undef=z23 at *;generalize a'.tmps.getD 24 undef=z24 at *;generalize a'.tmps.getD 25 undef=z25 at *;subst hact;have e0:z16 = .pointer (some ⟨X,0,none⟩):=hd0;subst e0;clear hd0;obtain⟨g5,c5,e9,hO5⟩:=hd9;subst e9;simp only[Act.put,List.setIfInBounds_toArray,List.set_cons_succ,List.set_cons_zero];have B4:=ħ (B3.o.trans (hb4.o.mono B3.o.size));have X4:=ħ (X3.o.step hb4.o);have XV4:=ħ (XV.o.step hb4.o);have O5:=ħ hO5;have hx3:X<w3.heap.size:=XV.o.lt;have HWS3:=ħ B3.o.size;clear hO5 hb4 X3 XV B3 HB XS HCLU;have HG5:Hid (g5≠X):=ħ (by have:=(O5.o.blk_lt (g:=g5) rfl).1;omega);have O5:=ħ (O5.o.low (B':=w.heap.size) HWS3.o);have x2:=XV4.o.cell 2 _ rfl;have xf:=XV4.o.warm 2;refine Zas (Zab rfl ?_)
   go_wp2_with fail
   refine Zaa (Zas (Zab rfl ?_))
   go_wp2_with fail
   refine Zaa (Zas (Zab rfl ?_))
   go_wp2_with fail
   refine Zaa (Zas (Zab rfl ?_))
   go_wp2_with fail
   refine Zaa (Zbm ?_);clear x2 xf;have on:=(Only.refl w4 (· = X)).setCell (a:=⟨X,2,none⟩) (.slice (some ⟨g5,0,none⟩) (nu+1) c5) rfl;have XV5:=ħ (XV4.o.set 2 (.slice (some ⟨g5,0,none⟩) (nu+1) c5));have X5:=ħ (X4.o.only on (fun e=>by have:=HXX.o.2;omega));have B5:=ħ (Only.later B4.o on (fun g hg=>by have:=HXX.o.1;omega));have O6:=ħ (O5.o.of_block (fun g e hl=>on.block g hl (fun e2=>by have h:g5=g:=đa e;exact HG5.o (h.trans e2))) on.size);clear on O5 X4 XV4 B4;generalize w4.setCell ⟨X,2,none⟩ (.slice (some ⟨g5,0,none⟩) (nu+1) c5)=w5 at *
   go_upto_region 3 with(fail)
   have HB:=B5;have XS:=X5;refine Za2 11 2 (Z2o A X sb w5.heap.size co nc cc nm RX vals u0 u1 u2 u3) (by kernel_rfl) rfl (Zw7 A X sb w5.heap.size co nc cc nm RX vals u0 u1 u2 u3) (Zbr (by kernel_rfl)) (Zeh (by kernel_rfl)) (Zax (by kernel_rfl)) (Zck (by kernel_rfl)) ?hs ?he
   case hs =>
    intro i o hin hi listed a' w' H hsn hl2;have hl3:=Zap hl2;have hb:=ħ H.below;have s5:=hsn 5 (Zak (by kernel_rfl));have s0:=hsn 0 (Zak (by kernel_rfl));have s3:=hsn 3 (Zak (by kernel_rfl));have hdn:=H.done;have hdf:=H.defers;have hts:=H.tsize;clear hl2 H hsn;obtain⟨t',df⟩:=a';obtain⟨f',rfl⟩:=Z3n t' hts;have hdf':df=[]:=hdf;subst hdf';have gs5:f' 5 = .pointer (some ⟨X,0,none⟩):=s5;have gs0:f' 0 = .pointer (some ⟨A,0,none⟩):=s0;have gs3:f' 3 = .pointer (some ⟨sb,0,none⟩):=s3;clear s5 s0 s3;clear hdf hts;have hcases:i=0\/i=1\/i=2\/i=3\/i=4\/i=5\/i=6\/i=7\/i=8\/i=9\/i=10:=Zl0 i hin;clear hin;rcases hcases with rfl | rfl | rfl | rfl | rfl | rfl | rfl | rfl | rfl | rfl | rfl
    ·obtain rfl:=đa hi
     clear hdn hl3;rw[gs5];clear gs5 gs0 gs3;refine Zab rfl ?_
     go_wp2_with fail
     exact Zaa ⟨_,rfl,đc _ _,rfl⟩
    ·obtain rfl:=đa hi
     clear hdn hl3;rw[gs0];clear gs5 gs0 gs3;refine Zab rfl ?_
     go_wp2_with fail
     exact Zaa ⟨_,rfl,đc _ _,rfl⟩
    ·obtain rfl:=đa hi
     have dv1:f' 30 = .pointer (some ⟨A,0,none⟩):=hdn 1 _ 30 rfl (hl3 1 (by rfl)) rfl;clear hdn hl3;rw[dv1];clear dv1 gs5 gs0 gs3;refine Zab rfl ?_
     go_wp2_with fail
     exact Zaa ⟨_,rfl,đc _ _,rfl⟩
    ·obtain rfl:=đa hi
     have dv2:f' 31 = .pointer (some ⟨A,0,none⟩):=hdn 2 _ 31 rfl (hl3 2 (by rfl)) rfl;clear hdn hl3;rw[dv2];clear dv2 gs5 gs0 gs3;refine Zab rfl ?_
     go_wp2_with fail
     exact Zaa ⟨_,rfl,đc _ _,rfl⟩
    ·obtain rfl:=đa hi
     have dv3:f' 32 = .pointer (some ⟨A,4,none⟩):=hdn 3 _ 32 rfl (hl3 3 (by rfl)) rfl;clear hdn hl3;rw[dv3];clear dv3 gs5 gs0 gs3;have ha:=AW.o w' (HB.o.trans (hb.o.mono HB.o.size));have c4:=ha.cell 4 _ rfl;clear ha;refine Zab rfl ?_
     go_wp2_with fail
     exact Zaa ⟨_,rfl,đc _ _,rfl⟩
    ·obtain rfl:=đa hi
     have dv4:f' 33 = .slice co nc cc:=hdn 4 _ 33 rfl (hl3 4 (by rfl)) rfl;clear hdn hl3;rw[dv4];clear dv4 gs5 gs0 gs3;refine Zab rfl ?_
     go_wp2_with fail
     refine(HCLB.o w').mono ?_;rintro e w4 ⟨rfl,rfl⟩
     go_wp2_with fail
     exact Zaa ⟨_,rfl,đc _ _,rfl⟩
    ·obtain rfl:=đa hi
     clear hdn hl3;rw[gs0];clear gs5 gs0 gs3;refine Zab rfl ?_
     go_wp2_with fail
     exact Zaa ⟨_,rfl,đc _ _,rfl⟩
    ·obtain rfl:=đa hi
     clear hdn hl3;rw[gs3];clear gs5 gs0 gs3;have hx:=XS.o.step hb.o;have p0:=hx.cell 0 _ rfl;have p1:=hx.cell 1 _ rfl;have p2:=hx.cell 2 _ rfl;have p3:=hx.cell 3 _ rfl;clear hx;refine Zab rfl ?_
     go_wp2_with fail
     exact Zaa ⟨_,rfl,đc _ _,rfl⟩
    ·obtain rfl:=đa hi
     have dv6:f' 35 = .pointer (some ⟨A,0,none⟩):=hdn 6 _ 35 rfl (hl3 6 (by rfl)) rfl;have dv7:f' 36 = .agg #[.int .i64 u0,.int .i64 u1,.int .i64 u2,.int .i64 u3]:=hdn 7 _ 36 rfl (hl3 7 (by rfl)) rfl;clear hdn hl3;rw[dv6,dv7];clear dv6 dv7 gs5 gs0 gs3;refine Zab rfl ?_
     go_wp2_with fail
     refine(HRO.o w' (HB.o.trans (hb.o.mono HB.o.size))).mono ?_;rintro e w4 ⟨bo,rfl,-,⟨V,hb0,hbV,hbW⟩,b4⟩;have HBO:Hid (Z0g w5.heap.size w4 bo RX):=ħ ⟨V,hb0,đo hb.o.size hbV,hbW⟩;have HB4:=ħ b4;clear hb0 hbV hbW b4
     go_wp2_with fail
     exact Zaa ⟨_,rfl,HB4.o,bo,rfl,HBO.o⟩
    ·obtain rfl:=đa hi
     have dv8:Z2o A X sb w5.heap.size co nc cc nm RX vals u0 u1 u2 u3 8 w' (f' 37):=hdn 8 _ 37 rfl (hl3 8 (by rfl)) rfl;obtain⟨bo,dv8,hbo⟩:=dv8;clear hdn hl3;rw[dv8];clear dv8 gs5 gs0 gs3;have HBO:=ħ hbo;clear hbo;have bx:=(đc w'.heap.size w').alloc (đd _) (.cells #[.slice bo nm nm] 87);have HV:Hid (Zae (w'.alloc (.cells #[.slice bo nm nm] 87)) w'.heap.size 87 [.slice bo nm nm]):=ħ (heap_alloc_new _ _);have BX:=ħ bx;clear bx;refine Zab rfl ?_
     go_wp2_with fail
     exact Zaa ⟨_,rfl,BX.o,w'.heap.size,bo,rfl,HV.o,HBO.o.below BX.o⟩
    ·obtain rfl:=đa hi
     have dv5:f' 34 = .slice co nc nc:=hdn 5 _ 34 rfl (hl3 5 (by rfl)) rfl;have dv9:Z2o A X sb w5.heap.size co nc cc nm RX vals u0 u1 u2 u3 9 w' (f' 38):=hdn 9 _ 38 rfl (hl3 9 (by rfl)) rfl;obtain⟨V,bo,dv9,hV,hbo⟩:=dv9;clear hdn hl3;rw[dv5,dv9];clear dv5 dv9 gs5 gs0 gs3;have HV:=ħ hV;have HBO:=ħ hbo;clear hV hbo;have HBW:=ħ (HB.o.trans (hb.o.mono HB.o.size))
     have HVR4:Hid (vals=[]\/∃ g off,co=some ⟨g,off,none⟩/\g<w'.heap.size/\Zav w' g off vals):=ħ (by
      rcases HVR.o with h | ⟨g,off,h1,h2,h3⟩
      ·exact .inl h
      ·exact .inr ⟨g,off,h1,đm h2 HBW.o.size,h3.of_block (HBW.o.block g h2)⟩)
     refine Zab rfl ?_;refine Zj0 86 87 (.slice none 0 0) 1 24 Tryz.underlying86 Zb4 rfl (by omega) (by omega) w' rfl (.tmp 34) (.tmp 38) rfl co nc vals ?q1 HVN.o HVL.o HVR4.o V 1 1 [.slice bo nm nm] 87 ?q2 HV.o rfl (by omega) ?q3 ?q4 ?_
     case q1=>rfl
     case q2=>rfl
     case q3=>simp[Value.oneCell']
     case q4=>omega
     intro g6 c6 wa o8 b8;have O5:=ħ (o8.low hb.o.size);have B5:=ħ b8;clear o8 b8
     go_wp2_with fail
     exact Zaa ⟨_,rfl,B5.o,g6,c6,bo,rfl,O5.o,HBO.o.below B5.o⟩
   case he =>
    intro listed a' w4 H hsn hall;have hd0:Z2o A X sb w5.heap.size co nc cc nm RX vals u0 u1 u2 u3 0 w4 (a'.tmps.getD 29 undef):=H.done 0 _ 29 rfl (hall 0 (by decide)) rfl;have hd10:Z2o A X sb w5.heap.size co nc cc nm RX vals u0 u1 u2 u3 10 w4 (a'.tmps.getD 39 undef):=H.done 10 _ 39 rfl (hall 10 (by decide)) rfl;have hb4:=ħ H.below;have hact:=H.actN hsn [29,30,31,32,33,34,35,36,37,38,39] (Zej (by kernel_rfl));clear H hall hsn;simp only[List.foldl_cons,List.foldl_nil] at hact;generalize a'.tmps.getD 29 undef=z29 at *;generalize a'.tmps.getD 30 undef=z30 at *;generalize a'.tmps.getD 31 undef=z31 at *;generalize a'.tmps.getD 32 undef=z32 at *;generalize a'.tmps.getD 33 undef=z33 at *;generalize a'.tmps.getD 34 undef=z34 at *;generalize a'.tmps.getD 35 undef=z35 at *;generalize a'.tmps.getD 36 undef=z36 at *;generalize a'.tmps.getD 37 undef=z37 at *;generalize a'.tmps.getD 38 undef=z38 at *;generalize a'.tmps.getD 39 undef=z39 at *;subst hact;have e0:z29 = .pointer (some ⟨X,0,none⟩):=hd0;subst e0;clear hd0;obtain⟨g6,c6,bo,e10,hO6,hbo⟩:=hd10;subst e10;simp only[Act.put,List.setIfInBounds_toArray,List.set_cons_succ,List.set_cons_zero];have B6:=ħ (B5.o.trans (hb4.o.mono B5.o.size));have XV6:=ħ (XV5.o.step hb4.o);have O7:=ħ (O6.o.below hb4.o);have P7:=ħ hO6;have HBO:=ħ hbo;have hx5:X<w5.heap.size:=XV5.o.lt;have HWS5:=ħ B5.o.size;clear hO6 hb4 hbo XV5 B5 HB XS HCLB X5 O6;have HG6:Hid (g6≠X):=ħ (by have:=(P7.o.blk_lt (g:=g6) rfl).1;omega);have P7:=ħ (P7.o.low (B':=w.heap.size) HWS5.o);have x2:=XV6.o.cell 4 _ rfl;have xf:=XV6.o.warm 4;refine Zas (Zab rfl ?_)
    go_wp2_with fail
    refine Zaa (Zas (Zab rfl ?_))
    go_wp2_with fail
    refine Zaa (Zas (Zab rfl ?_))
    go_wp2_with fail
    refine Zaa (Zbm ?_);clear x2 xf;have on:=(Only.refl w4 (· = X)).setCell (a:=⟨X,4,none⟩) (.slice (some ⟨g6,0,none⟩) (nc+1) c6) rfl;have XV7:=ħ (XV6.o.set 4 (.slice (some ⟨g6,0,none⟩) (nc+1) c6));have B7:=ħ (Only.later B6.o on (fun g hg=>by have:=HXX.o.1;omega));have O8:=ħ (O7.o.of_block (fun g e hl=>on.block g hl (fun e2=>by have h:g5=g:=đa e;exact HG5.o (h.trans e2))) on.size);have P8:=ħ (P7.o.of_block (fun g e hl=>on.block g hl (fun e2=>by have h:g6=g:=đa e;exact HG6.o (h.trans e2))) on.size);have HBO8:=ħ (HBO.o.flat on hx5)
    go_wp2_with fail
    go_ret;exact⟨X,rfl,HFIN.o _ X _ _ _ _ bo B7.o (by rw[HRV.o];exact XV7.o) O8.o P8.o HBO8.o,HXX.o.1,B7.o⟩
end
section
open Go.RowKit Go.Sort Go.Maps
structure ArgC (w:World) (c:Crw) (cs:List Value) (B:Nat):Prop where
 crw:Zhs w c cs
 tab:Tab w B
 ok:CrwOk c
 nu:c.us.length<=999
theorem ArgC.below{w w':World}{c:Crw}{cs:List Value}{B:Nat}(h:ArgC w c cs B)(hb:Below w.heap.size w w'):ArgC w' c cs B:=⟨h.crw.below hb,Zbw.step (w:=w) h.tab hb,h.ok,h.nu⟩
theorem ArgC.form{w:World}{c:Crw}{cs:List Value}{B:Nat}(h:ArgC w c cs B):∃ qo qc mo mc uo uc,cs=[.slice qo c.qs.length qc,.slice mo c.ms.length mc,.slice uo c.us.length uc]:=by
 obtain⟨qo,qc,mo,mc,uo,uc,h1,-⟩:=h.crw;exact⟨qo,qc,mo,mc,uo,uc,h1⟩
theorem Zr9{m:Mem}(h:Zc8 m=true):(∀ t∈m.t,0<=t/\t<=4096)/\m.t.length<=16:=by
 unfold Zc8 at h;simp only[đi,decide_eq_true_eq,Bool.not_eq_true',List.any_eq_false,Bool.not_eq_true,inB] at h;obtain⟨⟨⟨h1,h2⟩,h3⟩,h4⟩:=h;refine⟨fun t ht=>?_,h2⟩;have:=h3 t ht;simpa [Zz8,inB] using this
theorem Zaw{c:Crw}(h:Zal c=true)(hu:c.us.length<=1000):ReckOk c (Za7 c):=by
 obtain⟨h1,h2,h3,h4,h5,h6⟩:=Zau h;refine⟨by unfold Za7;rw[đr],fun r hr=>?_,fun x hx=>?_,fun m hm=>?_,by omega,hu⟩
 ·unfold Za7 at hr
  obtain⟨x,-,rfl⟩:=List.mem_map.1 hr;exact Zf0 _ _ _
 ·have:=Zfc (h6 x hx);omega
 ·have:=Zr9 (h5 m hm)
  exact⟨this.1,by omega⟩
end
section
open Go.RowKit Go.Sort Go.Maps
def Zco(u:Int)(n:Nat):Bool:=inB u 0 ((n:Int)-1)
theorem Zbx{u:Int}{n:Nat}(h:Zco u n=true):∃ k:Nat,u=(k:Int)/\k<n:=by
 unfold Zco inB at h;simp only[đi,decide_eq_true_eq] at h;exact⟨u.toNat,by omega,by omega⟩
def Z5c(c:Crw)(u:Int):List Nat:=if (Zal c&&Zco u c.us.length)=true then Zk7 c (Za7 c) u.toNat else []
def Zlc(w w':World)(l:List Nat)(e:Ending):Prop:=(∃ o cap,e = .returned (.slice o l.length cap)/\OwnK w' w.heap.size 1 l.length cap (Za0 l) o)/\Below w.heap.size w w'
theorem Zlc.nil{w w':World}{l:List Nat}(h:l=[])(hb:Below w.heap.size w w'):Zlc w w' l (.returned (.slice none 0 0)):=by
 subst h;exact⟨⟨none,0,rfl,.nil rfl rfl rfl⟩,hb⟩
end
section
open Go.RowKit Go.Sort Go.Maps
def Ztp(c:Crw)(u m:Int):Bool:=Zal c&&Zco u c.us.length&&Zco m c.ms.length
def Zma(w w':World)(c:Crw)(u m:Int)(e:Ending):Prop:=Below w.heap.size w w'/\if Ztp c u m=true then ∃ X,e = .returned (.tuple #[.pointer (some ⟨X,0,none⟩),.bool true])/\Zbo w' X c (Zaj c) (Zcy c (Za7 c) u.toNat m.toNat) else e = .returned (.tuple #[.pointer none,.bool false])
theorem Zmb{c:Crw}{u m:Int}(h:Ztp c u m=true):Zal c=true/\∃ k j:Nat,u=(k:Int)/\m=(j:Int)/\k<c.us.length/\j<c.ms.length:=by
 unfold Ztp at h;simp only[đi] at h;obtain⟨⟨h1,h2⟩,h3⟩:=h;obtain⟨k,e1,hk⟩:=Zbx h2;obtain⟨j,e2,hj⟩:=Zbx h3;exact⟨h1,k,j,e1,e2,hk,hj⟩
theorem Zw8(w:World)(c:Crw)(cs:List Value)(B:Nat)(u m:Int)(ha:ArgC w c cs B) :
  Calls Tryz.prog 118 #[.agg cs.toArray,.int .i64 u,.int .i64 m] w fun e w'=>Zma w w' c u m e:=by
 have HOP:=ħ (fun W (hW:Below w.heap.size w W)=>Zd4 W c cs (ha.below hW).crw B (ha.below hW).tab ha.ok);have HNU:=ha.nu;have HRK:=ħ (fun(h:Zal c=true)=>Zaw h (by omega));have HVP:=ħ (fun(h:Zal c=true)=>Zau h);have HAC:=ħ ha;have hnq0:=ha.ok.nq;have hnm0:=ha.ok.nm;have HPA:Hid (Ztp c u m=(Zal c&&Zco u c.us.length&&Zco m c.ms.length)):=ħ rfl;have HNO:Hid (∀ w' e,Ztp c u m=false->Below w.heap.size w w'->e = .returned (.tuple #[.pointer none,.bool false])->Zma w w' c u m e):=ħ (fun w' e h hb he=>by unfold Zma;rw[h];exact⟨hb,he⟩)
 have HYE:Hid (∀ w' X (k j:Nat),u=(k:Int)->m=(j:Int)->Ztp c u m=true->Below w.heap.size w w'->Zbo w' X c (Zaj c) (Zcy c (Za7 c) k j)->Zma w w' c u m (.returned (.tuple #[.pointer (some ⟨X,0,none⟩),.bool true]))):=ħ (fun w' X k j h1 h2 h hb he=>by
  unfold Zma;rw[h,h1,h2];exact⟨hb,X,rfl,he⟩)
 generalize Ztp c u m=PA at *;have HIX:Hid (Zco u c.us.length=inB u 0 ((c.us.length:Int)-1)):=ħ rfl;have HIN:=ħ (fun h=>Zbx (u:=u) (n:=c.us.length) h);have HJX:Hid (Zco m c.ms.length=inB m 0 ((c.ms.length:Int)-1)):=ħ rfl;have HJN:=ħ (fun h=>Zbx (u:=m) (n:=c.ms.length) h);obtain⟨qo,qc,mo,mc,uo,uc,rfl,hq0,hm0,hu0,-⟩:=ha.crw;have HMW:=ħ (fun W (hW:Below w.heap.size w W)=>hm0.below hW);have HUW:=ħ (fun W (hW:Below w.heap.size w W)=>hu0.below hW);unfold Z0c at HOP;clear ha hq0 hm0 hu0;generalize hnq:c.qs.length=nq at *;generalize hnm:c.ms.length=nm at *;generalize hnu:c.us.length=nu at *;have HQE:=ħ hnq;have HME:=ħ hnm;have HUE:=ħ hnu;clear hnq hnm hnu;generalize hvc:Zal c=vc at *;have HVC:=ħ hvc;clear hvc;have X1:Hid (Zae (w.alloc (.cells #[.slice qo nq qc,.slice mo nm mc,.slice uo nu uc] 26)) w.heap.size 26 [.slice qo nq qc,.slice mo nm mc,.slice uo nu uc]):=ħ (heap_alloc_new w _);have B1:=ħ ((đc w.heap.size w).alloc (đd _) (.cells #[.slice qo nq qc,.slice mo nm mc,.slice uo nu uc] 26))
 go_enter Tryz.func118,Tryz.ntmps118
 go_upto_region 1 with(fail)
 generalize w.alloc (.cells #[.slice qo nq qc,.slice mo nm mc,.slice uo nu uc] 26)=w1 at *;have c0:=X1.o.cell 0 _ rfl;have c1:=X1.o.cell 1 _ rfl;have c2:=X1.o.cell 2 _ rfl;have HCL:=ħ (HOP.o w1 B1.o);clear HOP
 go_wp2_with fail
 refine HCL.o.mono ?_;intro e w2 hq;obtain⟨hres,b2⟩:=hq;have B2:=ħ (B1.o.trans (b2.mono B1.o.size));have X2:=ħ (X1.o.step b2);have HSZ:Hid (w.heap.size<w2.heap.size):=ħ X2.o.lt;clear b2 c0 c1 c2 B1 X1 HCL
 cases vc with
 | false =>
  rw[if_neg (by decide)] at hres;subst hres;have HPN:Hid (PA=false):=ħ (by rw[HPA.o];rfl);clear HPA
  go_wp2_with fail
  go_ret2
  exact HNO.o _ _ HPN.o B2.o rfl
 | true =>
  rw[if_pos rfl] at hres;obtain⟨A,rfl,hR,-⟩:=hres;have HR:=ħ hR;have HOK:=ħ (HRK.o rfl);clear hR HRK;have c2:=X2.o.cell 2 _ rfl;have c1:=X2.o.cell 1 _ rfl;have HWI:=ħ (Zbn u 0 ((nu:Int)-1) w2);have HWJ:=ħ (Zbn m 0 ((nm:Int)-1) w2);rw[<- HIX.o] at HWI;rw[<- HJX.o] at HWJ;have ew:IntKind.i64.wrap ((nu:Int)-1)=(nu:Int)-1:=đh _ (by omega);have ew2:IntKind.i64.wrap ((nm:Int)-1)=(nm:Int)-1:=đh _ (by omega);generalize hib:Zco u nu=ib at *;have HIB:=ħ hib;clear hib;generalize hjb:Zco m nm=jb at *;have HJB:=ħ hjb;clear hjb
  go_wp2_with fail
  refine HWI.o.mono ?_;rintro e w3 ⟨rfl,rfl⟩;clear HWI
  cases ib with
  | false =>
   have HPN:Hid (PA=false):=ħ (by rw[HPA.o];rfl);clear HPA
   go_wp2_with fail
   go_ret2
   exact HNO.o _ _ HPN.o B2.o rfl
  | true =>
   go_wp2_with fail
   refine HWJ.o.mono ?_;rintro e w3 ⟨rfl,rfl⟩;clear HWJ c1 c2
   cases jb with
   | false =>
    have HPN:Hid (PA=false):=ħ (by rw[HPA.o];rfl);clear HPA
    go_wp2_with fail
    go_ret2
    exact HNO.o _ _ HPN.o B2.o rfl
   | true =>
    obtain⟨k,hku,hk⟩:=HIN.o (by first | rfl | trivial);obtain⟨j,hjm,hj⟩:=HJN.o (by first | rfl | trivial);have HPN:Hid (PA=true):=ħ (by rw[HPA.o];rfl);have HKU:=ħ hku;have HJM:=ħ hjm;rw[hku,hjm];have HPO:=ħ (Zm9 w2 A c (Zaj c) (Za7 c) k j HR.o (by rw[HOK.o.len,HUE.o];exact hk) (by rw[HME.o];exact hj) HOK.o.row (by rw[HOK.o.len,HUE.o];omega) (by rw[HME.o];omega));clear HPA hku hjm
    go_wp2_with fail
    refine HPO.o.mono ?_;rintro e w3 ⟨X,rfl,hX,-,b3⟩;have HX:=ħ hX;have B3:=ħ (B2.o.trans (b3.mono B2.o.size));clear hX b3 HPO
    go_wp2_with fail
    go_ret2
    exact HYE.o _ X k j HKU.o HJM.o HPN.o B3.o HX.o
theorem Z2p{c:Crw}{u m:Int}(h:Ztp c u m=true)(hu:c.us.length<=999):ReckOk c (Zcy c (Za7 c) u.toNat m.toNat):=(Zaw (Zmb h).1 (by omega)).fix _ _
end
section
open Go.RowKit Go.Sort Go.Maps
def IlE(w:World)(P:Nat->Prop)(c:List Int)(vs:List Value):Prop:=∃ ao cap,vs=[.slice ao c.length cap]/\(c=[]\/∃ g off,ao=some ⟨g,off,none⟩/\P g/\g<w.heap.size/\Zav w g off (c.flatMap Zbg))
theorem IlE.keeps:Zok IlE:=fun w w' P P' c vs hb hs hP ⟨ao,cap,hv,hk⟩=>⟨ao,cap,hv,by
 rcases hk with hk | ⟨g,off,h1,h2,h3,h4⟩
 ·exact .inl hk
 ·exact .inr ⟨g,off,h1,hP g h2 h3,đm h3 hs,h4.of_block (hb g h2 h3)⟩⟩
def Zhw(w:World)(rows:List (List Int))(ao:Option Addr):Prop:=rows=[]\/∃ g off,ao=some ⟨g,off,none⟩/\g<w.heap.size/\∀ i row,rows[i]?=some row->∃ bo bc,w.cell? ⟨g,off+i,none⟩=some (.slice bo row.length bc)/\Zan Zbg w bo row
theorem Zhw.below{w w':World}{rows:List (List Int)}{ao:Option Addr}(h:Zhw w rows ao)(hb:Below w.heap.size w w'):Zhw w' rows ao:=by
 rcases h with h | ⟨g,off,h1,h2,h3⟩
 ·exact .inl h
 ·refine .inr ⟨g,off,h1,đm h2 hb.size,fun i row hi=>?_⟩
  obtain⟨bo,bc,h4,h5⟩:=h3 i row hi;exact⟨bo,bc,by rw[đx (w:=w) (a:=⟨g,off+i,none⟩) (hb.block g h2)];exact h4,h5.below hb⟩
theorem Zhw.at{w:World}{rows:List (List Int)}{ao:Option Addr}(h:Zhw w rows ao)(i:Nat)(row:List Int)(hi:rows[i]?=some row):∃ g off bo bc,ao=some ⟨g,off,none⟩/\g<w.heap.size/\w.cell? ⟨g,off+i,none⟩=some (.slice bo row.length bc)/\Zan Zbg w bo row:=by
 rcases h with h | ⟨g,off,h1,h2,h3⟩
 ·rw[h] at hi;simp at hi
 ·obtain⟨bo,bc,h4,h5⟩:=h3 i row hi
  exact⟨g,off,bo,bc,h1,h2,h4,h5⟩
theorem RowM.rowsI{base lo n cp:Nat}{w:World}{bad:Nat->Prop}{ao:Option Addr}{rows:List (List Int)}{vss:List (List Value)}(h:RowM IlE 1 base w lo bad ao n cp rows vss):Zhw w rows ao:=by
 rcases Nat.eq_zero_or_pos rows.length with h0 | h0
 ·exact .inl (List.eq_nil_of_length_eq_zero h0)
 ·obtain⟨g,off,vs,h1,h2,-⟩:=h.at 0 rows[0] (đb h0)
  refine .inr ⟨g,off,h1,h2,fun i row hi=>?_⟩;obtain⟨g',off',vs',h1',h2',-,-,-,h3',bo,bc,rfl,h5⟩:=h.at i row hi;rw[h1] at h1';cases h1';have:=h3' 0 _ rfl;rw[Nat.mul_one,Nat.add_zero] at this;refine⟨bo,bc,this,?_⟩;rcases h5 with h6 | ⟨g2,off2,h6,-,h7,h8⟩
  ·exact .inl h6
  ·exact .inr ⟨g2,off2,h6,h7,h8⟩
theorem Zne(l:List Nat):(l.map Int.ofNat).length=l.length:=đr _
theorem Z2q{w:World}{B cap:Nat}{l:List Nat}{ao:Option Addr}(h:OwnK w B 1 l.length cap (Za0 l) ao)(P:Nat->Prop)(hP:∀ g,B<=g->P g):IlE w P (l.map Int.ofNat) [.slice ao l.length cap]:=by
 refine⟨ao,cap,by rw[Zne],?_⟩;rw[Zg8] at h;rcases h.flatR Zaz (Zne l).symm with h1 | ⟨g,off,h1,h2,h3⟩
 ·exact .inl h1
 ·exact .inr ⟨g,off,h1,hP g (h.blk_lt (by rw[h1];rfl)).1,h2,h3⟩
def Zfi(c:Crw):List (List Int):=if Zal c=true then(List.range c.us.length).map (fun u=>(Zk7 c (Za7 c) u).map Int.ofNat) else []
def Z0h(w w':World)(c:Crw)(e:Ending):Prop:=(∃ o cap,e = .returned (.slice o (Zfi c).length cap)/\Zhw w' (Zfi c) o)/\Below w.heap.size w w'
theorem Zw9:(Tryz.prog.info? 33).map (fun i=>(i.zero,i.size,i.bytes))=some (some (.slice none 0 0),1,24):=by kernel_rfl
theorem Zsa(w:World)(c:Crw)(cs:List Value)(B:Nat)(ha:ArgC w c cs B) :
  Calls Tryz.prog 24 #[.agg cs.toArray] w fun e w'=>Z0h w w' c e:=by
 have HOP:=ħ (fun W (hW:Below w.heap.size w W)=>Zd4 W c cs (ha.below hW).crw B (ha.below hW).tab ha.ok);have HNU:=ha.nu;have HRK:=ħ (fun(h:Zal c=true)=>Zaw h (by omega));have HVP:=ħ (fun(h:Zal c=true)=>Zau h);have HAC:=ħ ha;have hnq0:=ha.ok.nq;have hnm0:=ha.ok.nm;have HPA:Hid (Zfi c=if Zal c=true then(List.range c.us.length).map (fun u=>(Zk7 c (Za7 c) u).map Int.ofNat) else []):=ħ rfl;have HFIN:Hid (∀ w' o cap,Below w.heap.size w w'->Zhw w' (Zfi c) o->Z0h w w' c (.returned (.slice o (Zfi c).length cap))):=ħ (fun w' o cap hb h=>⟨⟨o,cap,rfl,h⟩,hb⟩);generalize Zfi c=PA at *;obtain⟨qo,qc,mo,mc,uo,uc,rfl,hq0,hm0,hu0,-⟩:=ha.crw;have HMW:=ħ (fun W (hW:Below w.heap.size w W)=>hm0.below hW);have HUW:=ħ (fun W (hW:Below w.heap.size w W)=>hu0.below hW);unfold Z0c at HOP;clear ha hq0 hm0 hu0;generalize hnq:c.qs.length=nq at *;generalize hnm:c.ms.length=nm at *;generalize hnu:c.us.length=nu at *;have HQE:=ħ hnq;have HME:=ħ hnm;have HUE:=ħ hnu;clear hnq hnm hnu;generalize hvc:Zal c=vc at *;have HVC:=ħ hvc;clear hvc;have X1:Hid (Zae (w.alloc (.cells #[.slice qo nq qc,.slice mo nm mc,.slice uo nu uc] 26)) w.heap.size 26 [.slice qo nq qc,.slice mo nm mc,.slice uo nu uc]):=ħ (heap_alloc_new w _);have B1:=ħ ((đc w.heap.size w).alloc (đd _) (.cells #[.slice qo nq qc,.slice mo nm mc,.slice uo nu uc] 26))
 go_enter Tryz.func24,Tryz.ntmps24
 go_upto_region 1 with(fail)
 generalize w.alloc (.cells #[.slice qo nq qc,.slice mo nm mc,.slice uo nu uc] 26)=w1 at *;have c0:=X1.o.cell 0 _ rfl;have c1:=X1.o.cell 1 _ rfl;have c2:=X1.o.cell 2 _ rfl;have HCL:=ħ (HOP.o w1 B1.o);clear HOP
 go_wp2_with fail
 refine HCL.o.mono ?_;intro e w2 hq;obtain⟨hres,b2⟩:=hq;have B2:=ħ (B1.o.trans (b2.mono B1.o.size));have X2:=ħ (X1.o.step b2);have HSZ:Hid (w.heap.size<w2.heap.size):=ħ X2.o.lt;clear b2 c0 c1 c2 B1 X1 HCL
 cases vc with
 | false =>
  rw[if_neg (by decide)] at hres;subst hres;have HPN:Hid (PA=[]):=ħ (by rw[HPA.o];rfl);clear HPA
  go_wp2_with fail
  go_ret;rw[HPN.o] at HFIN;exact HFIN.o _ none 0 B2.o (.inl rfl)
 | true =>
  rw[if_pos rfl] at hres;obtain⟨A,rfl,hR,-⟩:=hres;have HR:=ħ hR;have HOK:=ħ (HRK.o rfl);clear hR HRK;have HPN:Hid (PA=(List.range nu).map (fun u=>(Zk7 c (Za7 c) u).map Int.ofNat)):=ħ (by rw[HPA.o,if_pos rfl]);have HPO:=ħ (fun W (hW:Below w2.heap.size w2 W) k (hk:k<nu)=>Zqf W A c (Zaj c) (Za7 c) k (HR.o.below hW) HOK.o (by rw[HUE.o];exact hk));have c2:=X2.o.cell 2 _ rfl;clear HPA HR
  go_wp2_with fail
  clear c2;have HWZ:=ħ (đc w2.heap.size w2);obtain⟨wz,hwz⟩:∃ y,w2=y:=⟨_,rfl⟩;rw[hwz] at HPO B2 HWZ ⊢;clear hwz HSZ X2;have R2:Hid (RowM IlE 1 wz.heap.size wz wz.heap.size (fun _=>False) none 0 0 (PA.take 0) []):=ħ (by rw[List.take_zero];exact RowM.nil _ _ _)
  go_loopw [16,2] (fun kv ov wr=>∃ (k:Nat) (o:Option Addr) (cap:Nat) (vss:List (List Value)),kv = .int .i64 k/\ov = .slice o k cap/\k<=nu/\Hid (RowM IlE 1 wz.heap.size wr wz.heap.size (fun _=>False) o k cap (PA.take k) vss)/\Hid (Below wz.heap.size wz wr)) (fun k _ _=>(nu-intOf k).toNat)
  case atStart=>exact⟨0,none,0,[],rfl,rfl,by omega,R2,HWZ⟩
  case round =>
   clear R2 HWZ;obtain⟨k,o,cap,vss,rfl,rfl,hk,R3,B3⟩:=hrel;have e2:IntKind.i64.wrap ((k:Int)+1)=((k+1:Nat):Int):=đh _ (by omega);by_cases hkn:k<nu
   ·have kk:(k:Int)<nu:=by omega
    have HPC:=ħ (HPO.o wr B3.o k hkn);have HTK:Hid (PA.take (k+1)=PA.take k++[(Zk7 c (Za7 c) k).map Int.ofNat]):=ħ (by rw[đv,HPN.o,đj,List.getElem?_range hkn];rfl);have HKL:Hid (∀ g,blk o=some g->g<wr.heap.size):=ħ (fun g hg=>(R3.o.own.blk_lt hg).2);generalize Zk7 c (Za7 c) k=PK at *
    go_wp2_with fail
    refine HPC.o.mono ?_;rintro e w3 ⟨⟨po,pc,rfl,ho⟩,b3⟩;have E4:Hid (IlE w3 (fun g=>wr.heap.size<=g) (PK.map Int.ofNat) [.slice po PK.length pc]):=ħ (Z2q ho _ (fun g hg=>hg));have R4:=ħ (R3.o.step IlE.keeps b3);have B4:=ħ (B3.o.trans (b3.mono B3.o.size));have HB3:=ħ B3.o.size;clear ho b3 HPC R3 B3
    go_upto_region 8 with(at_builtin;refine Zcn 36 33 (.slice none 0 0) 1 24 Tryz.underlying36 Zw9 rfl (by omega) (by omega) w3 wz.heap.size rfl (.tmp 19) (.tmp 23) rfl o cap k vss.flatten ?q1 R4.o.own B4.o.size 1 1 #[.slice po PK.length pc] 33 ?q2 rfl (by omega) ?q3 ?q4 ?_;(case q1=>rfl);(case q2=>rfl);(case q3=>intro u hu;simp at hu;subst hu;rfl);(case q4=>omega);intro g5 off5 c5 wa o8 gr8 b8 or8;have R8:=ħ (RowM.add IlE.keeps R4.o HKL.o HB3.o (fun g hg=>hg.elim) E4.o rfl o8 gr8 or8);have B8:=ħ (B4.o.trans b8);clear o8 gr8 b8 or8)
    go_wp2_with fail
    go_roundw
    case rel=>exact⟨k+1,_,_,_,by go_num,rfl,by omega,ħ (by rw[HTK.o];exact R8.o),B8⟩
    case measure=>simp only[intOf];omega
   ·have kk:¬ (k:Int)<nu:=by omega
    obtain rfl:nu=k:=by omega
    have HPL:Hid (PA.length=nu):=ħ (by rw[HPN.o,đr,List.length_range]);have HTK:Hid (PA.take nu=PA):=ħ (List.take_of_length_le (by rw[HPL.o];exact đd _))
    go_wp2_with fail
    go_ret;have key:=HFIN.o wr o cap (B2.o.trans (B3.o.mono B2.o.size)) (by have:=R3.o.rowsI;rwa [HTK.o] at this);rw[HPL.o] at key;exact key
end
section
open Go.RowKit Go.Sort Go.Maps
def Zqh(l:List Int):Int:=if l.length=1 then l.getD 0 0 else -1
def Zsb(c:Crw):List Int:=(Zfi c).map Zqh
def Z2r(w w':World)(l:List Int)(e:Ending):Prop:=(∃ o cap,e = .returned (.slice o l.length cap)/\OwnK w' w.heap.size 1 l.length cap (l.flatMap Zbg) o)/\Below w.heap.size w w'
theorem Zxa(w:World)(c:Crw)(cs:List Value)(B:Nat)(ha:ArgC w c cs B) :
  Calls Tryz.prog 62 #[.agg cs.toArray] w fun e w'=>Z2r w w' (Zsb c) e:=by
 have HSE:=ħ (fun W (hW:Below w.heap.size w W)=>Zsa W c cs B (ha.below hW))
 have HSL:Hid ((Zfi c).length<=999):=ħ (by
  unfold Zfi;split
  ·rw[đr,List.length_range];exact ha.nu
  ·exact Nat.zero_le _)
 have HRL:Hid (∀ l∈Zfi c,l.length<=1000000):=ħ (fun l hl=>by
  unfold Zfi at hl
  split at hl
  ·obtain⟨u,-,rfl⟩:=List.mem_map.1 hl
   rw[Zne];have h1:=Zb1 (Zpm c (Za7 c) u) c.ms.length;have:=ha.ok.nm;unfold Zk7;omega
  ·cases hl)
 unfold Z0h at HSE;have HNF:Hid (Zsb c=(Zfi c).map Zqh):=ħ rfl;obtain⟨qo,qc,mo,mc,uo,uc,rfl⟩:=ha.form;clear ha;generalize Zsb c=NF at *;generalize Zfi c=SF at *;have X1:Hid (Zae (w.alloc (.cells #[.slice qo c.qs.length qc,.slice mo c.ms.length mc,.slice uo c.us.length uc] 26)) w.heap.size 26 [.slice qo c.qs.length qc,.slice mo c.ms.length mc,.slice uo c.us.length uc]):=ħ (heap_alloc_new w _);have B1:=ħ ((đc w.heap.size w).alloc (đd _) (.cells #[.slice qo c.qs.length qc,.slice mo c.ms.length mc,.slice uo c.us.length uc] 26));generalize c.qs.length=nq at *;generalize c.ms.length=nm at *;generalize c.us.length=nu at *;have HFIN:Hid (∀ w' o cap n,NF.length=n->Below w.heap.size w w'->OwnK w' w.heap.size 1 n cap (NF.flatMap Zbg) o->Z2r w w' NF (.returned (.slice o n cap))):=ħ (fun w' o cap n hn hb h=>by subst hn;exact⟨⟨o,cap,rfl,h⟩,hb⟩);generalize hsl:SF.length=ns at *;have HSN:=ħ hsl;clear hsl
 go_enter Tryz.func62,Tryz.ntmps62
 go_upto_region 1 with(fail)
 generalize w.alloc (.cells #[.slice qo nq qc,.slice mo nm mc,.slice uo nu uc] 26)=w1 at *;have c0:=X1.o.cell 0 _ rfl;have c1:=X1.o.cell 1 _ rfl;have c2:=X1.o.cell 2 _ rfl;have HCL:=ħ (HSE.o w1 B1.o);clear HSE
 go_wp2_with fail
 refine HCL.o.mono ?_;rintro e w2 ⟨⟨so,sc,rfl,hs⟩,b2⟩;have B2:=ħ (B1.o.trans (b2.mono B1.o.size));have HSW:=ħ (fun W (hW:Below w2.heap.size w2 W)=>hs.below hW);have HLN:=HSL.o;clear b2 c0 c1 c2 B1 X1 HCL hs
 go_wp2_with fail
 go_loopw [8,2] (fun kv ov wr=>∃ (k:Nat) (o:Option Addr) (cap:Nat),kv = .int .i64 k/\ov = .slice o k cap/\k<=ns/\Hid (OwnK wr w2.heap.size 1 k cap ((NF.take k).flatMap Zbg) o)/\Hid (Below w2.heap.size w2 wr)) (fun k _ _=>(ns-intOf k).toNat)
 case atStart=>exact⟨0,none,0,rfl,rfl,by omega,ħ (.nil rfl rfl rfl),ħ (đc _ _)⟩
 case round =>
  obtain⟨k,o,cap,rfl,rfl,hk,O3,B3⟩:=hrel;have e2:IntKind.i64.wrap ((k:Int)+1)=((k+1:Nat):Int):=đh _ (by omega);by_cases hkn:k<ns
  ·have kk:(k:Int)<ns:=by omega
   obtain⟨row,hrow⟩:∃ y,SF[k]?=some y:=⟨_,đb (by rw[HSN.o];exact hkn)⟩;obtain⟨g,off,bo,bc,hso,hg,hcell,hfl⟩:=(HSW.o wr B3.o).at k row hrow;have HTK:Hid (NF.take (k+1)=NF.take k++[Zqh row]):=ħ (by rw[đv,HNF.o,đj,hrow];rfl);have hrl:=HRL.o row (đe hrow);subst hso;by_cases h1:row.length=1
   ·have HON:Hid ([Zqh row].flatMap Zbg=[.int .i64 (row.getD 0 0)]):=ħ (by unfold Zqh;rw[if_pos h1];rfl)
    obtain⟨g2,off2,hbo,hg2,hrd⟩:∃ g off,bo=some ⟨g,off,none⟩/\g<wr.heap.size/\Zav wr g off (row.flatMap Zbg):=by
     rcases hfl with h | h
     ·rw[h] at h1;simp at h1
     ·exact h
    subst hbo
    have hr0:wr.cell? ⟨g2,off2,none⟩=some (.int .i64 (row.getD 0 0)):=by
     have:=hrd 0 (.int .i64 (row.getD 0 0)) (by
      obtain⟨x,hx⟩:=List.length_eq_one_iff.1 h1
      rw[hx];rfl)
     rwa [Nat.add_zero] at this
    rw[h1] at hcell;generalize row.getD 0 0=x0 at *;clear hrow hfl h1 hrd hrl;have ee:(1:Int)=1:=rfl
    go_upto_region 7 with(at_builtin;refine Zcn 33 3 (.int .i64 0) 1 8 Tryz.underlying33 Zbl rfl (by omega) (by omega) wr w2.heap.size rfl (.tmp 15) (.tmp 19) rfl o cap k ((NF.take k).flatMap Zbg) ?q1 O3.o B3.o.size 1 1 #[.int .i64 x0] 3 ?q2 rfl (by omega) ?q3 ?q4 ?_;(case q1=>rfl);(case q2=>rfl);(case q3=>simp[Value.oneCell']);(case q4=>omega);intro g5 off5 c5 wa o8 gr8 b8 or8;have O8:=ħ o8;have B8:=ħ (B3.o.trans b8);clear o8 gr8 b8 or8)
    go_wp2_with fail
    go_roundw
    case rel=>exact⟨k+1,_,_,by go_num,rfl,by omega,ħ (by rw[HTK.o,List.flatMap_append,HON.o];exact O8.o),B8⟩
    case measure=>simp only[intOf];omega
   ·have HON:Hid ([Zqh row].flatMap Zbg=[.int .i64 (-1)]):=ħ (by unfold Zqh;rw[if_neg h1];rfl)
    have ne:¬ ((row.length:Nat):Int)=1:=by omega
    generalize row.length=rl at *;clear hrow hfl
    go_upto_region 7 with(at_builtin;refine Zcn 33 3 (.int .i64 0) 1 8 Tryz.underlying33 Zbl rfl (by omega) (by omega) wr w2.heap.size rfl (.tmp 21) (.tmp 22) rfl o cap k ((NF.take k).flatMap Zbg) ?q1 O3.o B3.o.size 1 1 #[.int .i64 (-1)] 3 ?q2 rfl (by omega) ?q3 ?q4 ?_;(case q1=>rfl);(case q2=>rfl);(case q3=>simp[Value.oneCell']);(case q4=>omega);intro g5 off5 c5 wa o8 gr8 b8 or8;have O8:=ħ o8;have B8:=ħ (B3.o.trans b8);clear o8 gr8 b8 or8)
    go_wp2_with fail
    go_roundw
    case rel=>exact⟨k+1,_,_,by go_num,rfl,by omega,ħ (by rw[HTK.o,List.flatMap_append,HON.o];exact O8.o),B8⟩
    case measure=>simp only[intOf];omega
  ·have kk:¬ (k:Int)<ns:=by omega
   obtain rfl:ns=k:=by omega
   have HNL:Hid (NF.length=ns):=ħ (by rw[HNF.o,đr,HSN.o]);have HTK:Hid (NF.take ns=NF):=ħ (List.take_of_length_le (by rw[HNL.o];exact đd _))
   go_wp2_with fail
   go_ret;have ho:=O3.o.low (B':=w.heap.size) B2.o.size;rw[HTK.o] at ho;exact HFIN.o wr o cap ns HNL.o (B2.o.trans (B3.o.mono B2.o.size)) ho
end
section
open Go.RowKit Go.Sort Go.Maps
theorem Zdw{c:Crw}:(Zaj c).length=c.qs.length:=by unfold Zaj;rw[đr]
theorem Ze1{c:Crw}:∀ r∈Zaj c,r.length=c.ms.length:=fun r hr=>by
 unfold Zaj at hr;obtain⟨p,-,rfl⟩:=List.mem_map.1 hr;rw[đr]
theorem Zcw(w:World)(t t':TypeId)(a b:List Value):Zae ((w.alloc (.cells a.toArray t)).alloc (.cells b.toArray t')) w.heap.size t a/\Zae ((w.alloc (.cells a.toArray t)).alloc (.cells b.toArray t')) (w.heap.size+1) t' b/\Below w.heap.size w ((w.alloc (.cells a.toArray t)).alloc (.cells b.toArray t')) :=
 ⟨(Zae.new w t a).step ((đc _ _).alloc (đd _) _),Zae.newAt _ _ _ _ (by rw[đl]),((đc _ _).alloc (đd _) _).alloc (by rw[đl];omega) _⟩
def Z0i(c:Crw):Nat->List Int->List (List Bool)->Option (List (List Bool))
 | _,[],C=>some C
 | i,m::l,C=>if inB m (-1) ((c.ms.length:Int)-1)=true then Z0i c (i+1) l (if m = -1 then C else Zcy c C i m.toNat) else none
def Z2s(c:Crw)(l:List Int):Option (List (List Bool)):=if (Zal c&&decide (l.length=c.us.length))=true then Z0i c 0 l (Za7 c) else none
def Z3o(w w':World)(c:Crw)(l:List Int)(e:Ending):Prop:=Below w.heap.size w w'/\match Z2s c l with
 | none=>e = .returned (.tuple #[.slice none 0 0,.bool false])
 | some C=>if Zfn (Za1 c C)=true then ∃ o cap,e = .returned (.tuple #[.slice o (Zcl c c.us.length 0 C []).length cap,.bool true])/\OwnK w' w.heap.size 1 (Zcl c c.us.length 0 C []).length cap (Za0 (Zcl c c.us.length 0 C [])) o
  else e = .returned (.tuple #[.slice none 0 0,.bool false])
theorem Z2t(w:World)(c:Crw)(cs:List Value)(B:Nat)(l:List Int)(lo:Option Addr)(lc:Nat)(ha:ArgC w c cs B)(hl:Zan Zbg w lo l) :
  Calls Tryz.prog 23 #[.agg cs.toArray,.slice lo l.length lc] w fun e w'=>Z3o w w' c l e:=by
 have HOP:=ħ (fun W (hW:Below w.heap.size w W)=>Zd4 W c cs (ha.below hW).crw B (ha.below hW).tab ha.ok);have HNU:=ha.nu;have HRK:=ħ (fun(h:Zal c=true)=>Zaw h (by omega));have HVP:=ħ (fun(h:Zal c=true)=>Zau h);have HAC:=ħ ha;have hnq0:=ha.ok.nq;have hnm0:=ha.ok.nm;have HPA:Hid (Z2s c l=if (Zal c&&decide (l.length=c.us.length))=true then Z0i c 0 l (Za7 c) else none):=ħ rfl;have HNO:Hid (∀ w' e,Z2s c l=none->Below w.heap.size w w'->e = .returned (.tuple #[.slice none 0 0,.bool false])->Z3o w w' c l e):=ħ (fun w' e h hb he=>by unfold Z3o;rw[h];exact⟨hb,he⟩)
 have HYE:Hid (∀ w2 w' e C,Z2s c l=some C->Below w.heap.size w w2->Zl9 w2 c C e w'->Z3o w w' c l e):=ħ (fun w2 w' e C h hb he=>by
  obtain⟨h1,h2⟩:=he;refine⟨hb.trans (h1.mono hb.size),?_⟩;rw[h]
  show if _ then _ else _
  by_cases hf:Zfn (Za1 c C)=true
  ·rw[if_pos hf] at h2 ⊢
   obtain⟨o,cap,h3,h4⟩:=h2;exact⟨o,cap,h3,h4.low hb.size⟩
  ·rw[if_neg hf] at h2 ⊢
   exact h2)
 have HFT:Hid (∀ e w2 w' C,Zl9 w2 c C e w'->(∃ a b,e = .returned (.tuple #[a,b])) ):=ħ (fun e w2 w' C he=>by
  obtain⟨h1,h2⟩:=he;by_cases hf:Zfn (Za1 c C)=true
  ·rw[if_pos hf] at h2
   obtain⟨o,cap,h3,h4⟩:=h2;exact⟨_,_,h3⟩
  ·rw[if_neg hf] at h2
   exact⟨_,_,h2⟩)
 have HLW:=ħ (fun W (hW:Below w.heap.size w W)=>hl.below hW);clear hl;generalize Z2s c l=PA at *;generalize hll:l.length=nl at *;have HLL:=ħ hll;clear hll;obtain⟨qo,qc,mo,mc,uo,uc,rfl,hq0,hm0,hu0,-⟩:=ha.crw;have HMW:=ħ (fun W (hW:Below w.heap.size w W)=>hm0.below hW);have HUW:=ħ (fun W (hW:Below w.heap.size w W)=>hu0.below hW);unfold Z0c at HOP;clear ha hq0 hm0 hu0;generalize hnq:c.qs.length=nq at *;generalize hnm:c.ms.length=nm at *;generalize hnu:c.us.length=nu at *;have HQE:=ħ hnq;have HME:=ħ hnm;have HUE:=ħ hnu;clear hnq hnm hnu;generalize hvc:Zal c=vc at *;have HVC:=ħ hvc;clear hvc;have X1:Hid (Zae (w.alloc (.cells #[.slice qo nq qc,.slice mo nm mc,.slice uo nu uc] 26)) w.heap.size 26 [.slice qo nq qc,.slice mo nm mc,.slice uo nu uc]):=ħ (heap_alloc_new w _);have B1:=ħ ((đc w.heap.size w).alloc (đd _) (.cells #[.slice qo nq qc,.slice mo nm mc,.slice uo nu uc] 26))
 go_enter Tryz.func23,Tryz.ntmps23
 go_upto_region 1 with(fail)
 generalize w.alloc (.cells #[.slice qo nq qc,.slice mo nm mc,.slice uo nu uc] 26)=w1 at *;have c0:=X1.o.cell 0 _ rfl;have c1:=X1.o.cell 1 _ rfl;have c2:=X1.o.cell 2 _ rfl;have HCL:=ħ (HOP.o w1 B1.o);clear HOP
 go_wp2_with fail
 refine HCL.o.mono ?_;intro e w2 hq;obtain⟨hres,b2⟩:=hq;have B2:=ħ (B1.o.trans (b2.mono B1.o.size));have X2:=ħ (X1.o.step b2);have HSZ:Hid (w.heap.size<w2.heap.size):=ħ X2.o.lt;clear b2 c0 c1 c2 B1 X1 HCL
 cases vc with
 | false =>
  rw[if_neg (by decide)] at hres;subst hres;have HPN:Hid (PA=none):=ħ (by rw[HPA.o];rfl);clear HPA
  go_wp2_with fail
  go_ret2
  exact HNO.o _ _ HPN.o B2.o rfl
 | true =>
  rw[if_pos rfl] at hres;obtain⟨A,rfl,hR,-⟩:=hres;have HR:=ħ hR;have HOK:=ħ (HRK.o rfl);clear hR HRK;have c2:=X2.o.cell 2 _ rfl;by_cases hlu:nl=nu
  ·subst hlu
   have HPN:Hid (PA=Z0i c 0 l (Za7 c)):=ħ (by rw[HPA.o,decide_eq_true rfl];rfl);clear HPA
   go_wp2_with fail
   clear c2;have HWZ:=ħ (đc w2.heap.size w2);have HD0:Hid (Z0i c 0 (l.drop 0) (Za7 c)=PA):=ħ (by rw[List.drop_zero,HPN.o])
   go_loopw [27,6] (fun kv rv wr=>∃ (k X:Nat) (C:List (List Bool)),kv = .int .i64 k/\rv = .pointer (some ⟨X,0,none⟩)/\k<=nl/\Hid (Z0i c k (l.drop k) C=PA)/\Hid (Zbo wr X c (Zaj c) C)/\Hid (ReckOk c C)/\Hid (Zae wr w.heap.size 26 [.slice qo nq qc,.slice mo nm mc,.slice uo nl uc])/\Hid (Below w.heap.size w wr)) (fun k _ _=>(nl-intOf k).toNat)
   case atStart=>exact⟨0,A,Za7 c,rfl,rfl,by omega,HD0,HR,HOK,X2,B2⟩
   case round =>
    clear HD0 HR HOK X2 B2 HWZ HPN HSZ;obtain⟨k,X,C,rfl,rfl,hk,HD,HR,HOK,X2,B2⟩:=hrel;have e2:IntKind.i64.wrap ((k:Int)+1)=((k+1:Nat):Int):=đh _ (by omega);by_cases hkn:k<nl
    ·have kk:(k:Int)<nl:=by omega
     obtain⟨m,hm⟩:∃ m,l[k]?=some m:=⟨_,đb (by rw[HLL.o];exact hkn)⟩;obtain⟨gl,ol,hlo,hgl,hlc⟩:=(HLW.o wr B2.o).at Zaz k m hm;have l0:=hlc 0 _ rfl;rw[Nat.mul_one,Nat.add_zero] at l0;subst hlo
     have HDD:Hid (PA=if inB m (-1) ((nm:Int)-1)=true then Z0i c (k+1) (l.drop (k+1)) (if m = -1 then C else Zcy c C k m.toNat) else none):=ħ (by
      rw[<- HD.o,List.drop_eq_getElem_cons (by rw[HLL.o];exact hkn),<- HME.o];have:l[k]'(by rw[HLL.o];exact hkn)=m:=(đg.1 hm).2;rw[this]
      rfl)
     have c1:=X2.o.cell 1 _ rfl;have ew:IntKind.i64.wrap ((nm:Int)-1)=(nm:Int)-1:=đh _ (by omega);have HWI:=ħ (Zbn m (-1) ((nm:Int)-1) wr)
     have HIN:Hid (inB m (-1) ((nm:Int)-1)=true->-1<=m/\m<=(nm:Int)-1):=ħ (fun h=>by
      unfold inB at h
      simpa using h)
     clear hm hlc hgl HD;generalize inB m (-1) ((nm:Int)-1)=ib at *
     go_wp2_with fail
     refine HWI.o.mono ?_;rintro e w4 ⟨rfl,rfl⟩;clear HWI c1 l0
     cases ib with
     | false =>
      have HPN:Hid (PA=none):=ħ (by rw[HDD.o];rfl);clear HDD
      go_wp2_with fail
      go_ret2
      exact HNO.o _ _ HPN.o B2.o rfl
     | true =>
      obtain⟨hm1,hm2⟩:=HIN.o (by first | rfl | trivial);by_cases h1:m = -1
      ·subst h1
       have HD3:Hid (Z0i c (k+1) (l.drop (k+1)) C=PA):=ħ (by rw[HDD.o];rfl);clear HDD HIN
       go_wp2_with fail
       go_roundw
       case rel=>exact⟨k+1,X,C,by go_num,rfl,by omega,HD3,HR,HOK,X2,B2⟩
       case measure=>simp only[intOf];omega
      ·obtain⟨j,rfl⟩:∃ j:Nat,m=(j:Int):=⟨m.toNat,by omega⟩
       have hj:j<nm:=by omega
       have HD3:Hid (Z0i c (k+1) (l.drop (k+1)) (Zcy c C k j)=PA):=ħ (by rw[HDD.o,if_pos rfl,if_neg h1];rfl);have HFC:=ħ (Zm9 wr X c (Zaj c) C k j HR.o (by rw[HOK.o.len,HUE.o];exact hkn) (by rw[HME.o];exact hj) HOK.o.row (by rw[HOK.o.len,HUE.o];omega) (by rw[HME.o];omega));have HOK3:=ħ (HOK.o.fix k j);clear HDD HIN HR
       have hne:¬ ((j:Nat):Int) = -1:=by omega
       go_wp2_with fail
       refine HFC.o.mono ?_;rintro e w5 ⟨X',rfl,hX,-,b5⟩;have HX:=ħ hX;have X5:=ħ (X2.o.step b5);have B5:=ħ (B2.o.trans (b5.mono B2.o.size));clear hX b5 HFC X2 B2 HOK
       go_wp2_with fail
       go_roundw
       case rel=>exact⟨k+1,X',Zcy c C k j,by go_num,rfl,by omega,HD3,HX,HOK3,X5,B5⟩
       case measure=>simp only[intOf];omega
    ·have kk:¬ (k:Int)<nl:=by omega
     obtain rfl:nl=k:=by omega
     have HPN:Hid (PA=some C):=ħ (by rw[<- HD.o,List.drop_of_length_le (by rw[HLL.o];exact đd _)];rfl);have HFI:=ħ (Zw3 wr X c (Zaj c) C HR.o HOK.o);clear HD HR
     go_wp2_with fail
     refine HFI.o.mono ?_;intro e w3 hq;have HQ:=ħ (HYE.o wr w3 e C HPN.o B2.o hq);obtain⟨a,b,rfl⟩:=HFT.o e wr w3 C hq;clear hq HFI HYE HNO HFT
     go_wp2_with fail
     go_ret2
     exact HQ.o
  ·have HPN:Hid (PA=none):=ħ (by rw[HPA.o,decide_eq_false hlu];rfl)
   have hne:¬ ((nl:Nat):Int)=nu:=by omega
   clear HPA
   go_wp2_with fail
   go_ret2
   exact HNO.o _ _ HPN.o B2.o rfl
end
end Go.Proofs.YtbcgocpihobjnaaGreatDoor
