import Derived.Test.YtbcgocpihobjnaaGreatDoorCL43
import Derived.Test.YtbcgocpihobjnaaGreatDoorCL34
import Derived.Test.YtbcgocpihobjnaaGreatDoorCL35
set_option linter.all false
set_option maxHeartbeats 32000000
set_option maxRecDepth 100000
namespace Go.Proofs.YtbcgocpihobjnaaGreatDoor
section
open Go.RowKit Go.Sort Go.Maps
theorem Znc(w:World)(c:Crw)(cs:List Value)(u:Int)(ha:ArgR w c cs) :
  Calls Tryz.prog 60 #[.agg cs.toArray,.int .i64 u] w fun e w'=>xB w w' (tM c u) e:=by
 have Dv:=I (fun W (hW:Below w.heap.size w W)=>GA W c cs u (ha.below hW));have gV:=ha.nu;have cU:=I (fun(h:bG c=true)=>qP h (by omega));have pI:=I (fun W (hW:Below w.heap.size w W) (h:bG c=true)=>fl W c cs (ha.below hW) h);have gP:=I (fun(v:Nat) (hv:bG c=true) (hl:v<c.us.length) W ts (ht:rL W c (aW c) ts)=>ZV W c (aW c) (cU.o hv) ts ht v hl)
 have Dw:Hid ((bG c&&cM u c.us.length)=true->∃ v:Nat,u=(v:Int)/\v<c.us.length/\bG c=true):=I (fun h=>by
  rw[dB] at h;obtain⟨v,h1,h2⟩:=oZ h.2
  exact⟨v,h1,h2,h.1⟩)
 have bJ:Hid (tM c u=if (bG c&&cM u c.us.length)=true then iN c (aW c) u.toNat else []):=I rfl;obtain⟨qo,qc,mo,mc,uo,uc,rfl,-,-⟩:=Tl ha.crw;clear ha cU;obtain⟨ib,oB⟩:=exq ((bG c&&cM u c.us.length));rw[oB] at Dv Dw bJ;clear oB;generalize tM c u=PA at *;have X1:=hnw w 26 [.slice qo c.qs.length qc,.slice mo c.ms.length mc,.slice uo c.us.length uc];have B1:=I (bwA w (.cells #[.slice qo c.qs.length qc,.slice mo c.ms.length mc,.slice uo c.us.length uc] 26));generalize c.qs.length=qn at *;generalize lG:c.ms.length=mn at *;generalize jQ:c.us.length=un at *;have fF:=I lG;have dZ:=I jQ;clear lG jQ
 go_enter Tryz.func60,Tryz.ntmps60
 go_upto_region 1 with(fail)
 generalize w.alloc (.cells #[.slice qo qn qc,.slice mo mn mc,.slice uo un uc] 26)=w1 at *
 go_wp2_with (refine wpList_load_row rfl 26 (.tmp 2) rfl (w.heap.size) ?x1 26 #[.slice qo qn qc,.slice mo mn mc,.slice uo un uc] (0,0) _ X1.o Tryz.underlying26 rfl (kU _ _ _) ?_;(case x1=>rfl))
 refine(Dv.o w1 B1.o).mono ?_;rintro e w2 ⟨rfl,b2⟩;have X2:=X1.st b2;have B2:=B1.tr b2;clear b2 X1 B1 Dv
 cases ib with
 | false =>
  have HE:Hid (PA=[]):=I (by rw[bJ.o];rfl)
  go_wp2_with fail
  go_ret;exact xB.nil HE.o B2.o
 | true =>
  obtain⟨v,rfl,kD,hv⟩:=Dw.o rfl;have HE:Hid (PA=iN c (aW c) v):=I (by rw[bJ.o];rfl);have rR:=I (pI.o w2 B2.o hv);have bw:=I (gP.o v hv kD);rw[<- HE.o] at bw;clear pI gP Dw bJ HE hv
  go_upto_region 3 with(fail)
  go_wp2_with (refine wpList_load_row rfl 26 (.tmp 2) rfl (w.heap.size) ?x3 26 #[.slice qo qn qc,.slice mo mn mc,.slice uo un uc] (0,0) _ X2.o Tryz.underlying26 rfl (kU _ _ _) ?_;(case x3=>rfl))
  refine rR.o.mono ?_;rintro e w3 ⟨⟨ts,rfl,xU⟩,b3⟩;have Mw:=I (bw.o w3 ts xU);have B3:=B2.tr b3;clear b3 xU B2 X2 rR bw
  go_wp2_with fail
  refine Mw.o.mono ?_;rintro e w4 ⟨⟨o,cap,rfl,ho⟩,b4⟩;have B4:=B3.tr b4;have O4:=I (ho.lower B3.o.size);clear b4 ho Mw B3
  go_wp2_with fail
  go_ret;exact⟨⟨o,cap,rfl,O4.o⟩,B4.o⟩
theorem Zpk(w:World)(c:Crw)(cs:List Value)(u m:Int)(ha:ArgR w c cs) :
  Calls Tryz.prog 54 #[.agg cs.toArray,.int .i64 u,.int .i64 m] w fun e w'=>Nx w w' c u m e:=by
 have Dv:=I (fun W (hW:Below w.heap.size w W)=>GA W c cs u (ha.below hW));have gV:=ha.nu;have qZ:=ha.ok.nm;have cU:=I (fun(h:bG c=true)=>qP h (by omega));have pI:=I (fun W (hW:Below w.heap.size w W) (h:bG c=true)=>fl W c cs (ha.below hW) h);have jH:=I (fun(v k:Nat) (hv:bG c=true) (hl:v<c.us.length) (hk:k<c.ms.length) W ts (ht:rL W c (aW c) ts)=>ZQ W c (aW c) ts ht (cU.o hv).row (by rw[(cU.o hv).len];omega) (cU.o hv).nm v k (by rw[(cU.o hv).len];exact hl) hk);have rY:=I (fun(v k:Nat) (hv:bG c=true) W ts (ht:rL W c (bV c (aW c) v k) ts)=>ZW W c (bV c (aW c) v k) ((cU.o hv).fix v k) ts ht);unfold vS at rY
 have Dw:Hid ((bG c&&cM u c.us.length)=true->∃ v:Nat,u=(v:Int)/\v<c.us.length/\bG c=true):=I (fun h=>by
  rw[dB] at h;obtain⟨v,h1,h2⟩:=oZ h.2
  exact⟨v,h1,h2,h.1⟩)
 have wU:Hid (cM m c.ms.length=true->∃ k:Nat,m=(k:Int)/\k<c.ms.length):=I oZ;have eZ:=I (fun W=>yQ m 0 ((c.ms.length:Int)-1) W);have mZ:Hid (cM m c.ms.length=inB m 0 ((c.ms.length:Int)-1)):=I rfl;have nY:Hid (pA c u m=(bG c&&cM u c.us.length&&cM m c.ms.length)):=I rfl;obtain⟨qo,qc,mo,mc,uo,uc,rfl,-,-⟩:=Tl ha.crw;clear ha cU;obtain⟨ib,oB⟩:=exq ((bG c&&cM u c.us.length));rw[oB] at Dv Dw nY;obtain⟨im,Nj⟩:=exq (cM m c.ms.length);rw[Nj] at wU mZ nY;rw[<- mZ.o] at eZ;clear oB Nj mZ;have X1:=hnw w 26 [.slice qo c.qs.length qc,.slice mo c.ms.length mc,.slice uo c.us.length uc];have B1:=I (bwA w (.cells #[.slice qo c.qs.length qc,.slice mo c.ms.length mc,.slice uo c.us.length uc] 26));generalize c.qs.length=qn at *;generalize lG:c.ms.length=mn at *;generalize jQ:c.us.length=un at *;have fF:=I lG;have dZ:=I jQ;clear lG jQ;have e1:IntKind.i64.wrap ((mn:Int)-1)=(mn:Int)-1:=fU _ (by omega)
 go_enter Tryz.func54,Tryz.ntmps54
 go_upto_region 1 with(fail)
 generalize w.alloc (.cells #[.slice qo qn qc,.slice mo mn mc,.slice uo un uc] 26)=w1 at *
 go_wp2_with (refine wpList_load_row rfl 26 (.tmp 3) rfl (w.heap.size) ?x1 26 #[.slice qo qn qc,.slice mo mn mc,.slice uo un uc] (0,0) _ X1.o Tryz.underlying26 rfl (kU _ _ _) ?_;(case x1=>rfl))
 refine(Dv.o w1 B1.o).mono ?_;rintro e w2 ⟨rfl,b2⟩;have X2:=X1.st b2;have B2:=B1.tr b2;clear b2 X1 B1 Dv;have c1:=X2.o.cell 1 _ rfl
 cases ib with
 | false =>
  go_wp2_with fail
  go_ret2
  refine⟨B2.o,?_⟩
  first | (rw[nY.o];done) | (rw[nY.o];rfl)
 | true =>
  obtain⟨v,rfl,kD,hv⟩:=Dw.o rfl;clear Dw
  go_wp2_with fail
  refine(eZ.o w2).mono ?_;rintro e h_ ⟨rfl,rfl⟩;clear eZ c1
  cases im with
  | false =>
   go_wp2_with fail
   go_ret2
   refine⟨B2.o,?_⟩
   first | (rw[nY.o];done) | (rw[nY.o];rfl)
  | true =>
   obtain⟨k,rfl,iQ⟩:=wU.o rfl;have rR:=I (pI.o w2 B2.o hv);have pG:=I (jH.o v k hv kD iQ);have zA:=I (rY.o v k hv);clear pI jH rY wU hv;obtain⟨fk,lZ⟩:=exq (gD (aR c (bV c (aW c) v k)));rw[lZ] at zA;have zJ:=I lZ;clear lZ
   go_upto_region 3 with(fail)
   go_wp2_with (refine wpList_load_row rfl 26 (.tmp 3) rfl (w.heap.size) ?x3 26 #[.slice qo qn qc,.slice mo mn mc,.slice uo un uc] (0,0) _ X2.o Tryz.underlying26 rfl (kU _ _ _) ?_;(case x3=>rfl))
   refine rR.o.mono ?_;rintro e w3 ⟨⟨ts,rfl,xU⟩,b3⟩;have Mw:=I (pG.o w3 ts xU);have B3:=B2.tr b3;clear b3 xU B2 X2 rR pG
   go_wp2_with fail
   refine Mw.o.mono ?_;rintro e w4 ⟨⟨i_,rfl,ca⟩,b4⟩;have j_:=I (zA.o w4 i_ ca);have B4:=B3.tr b4;clear b4 ca B3 Mw zA
   go_wp2_with fail
   refine j_.o.mono ?_;rintro e w5 ⟨b5,hq⟩;have B5:=B4.tr b5;have Mq:Hid ((pA c (v:Int) (k:Int)&&gD (aR c (bV c (aW c) (v:Int).toNat (k:Int).toNat)))=fk):=I (by rw[nY.o,Int.toNat_natCast,Int.toNat_natCast,zJ.o];rfl)
   cases fk with
   | false =>
    rw[if_neg (by decide)] at hq;subst hq;clear b5
    go_wp2_with fail
    go_ret2
    refine⟨B5.o,?_⟩;rw[Mq.o,if_neg (by decide)]
    try rfl
   | true =>
    rw[if_pos rfl] at hq;obtain⟨o,cap,rfl,ho⟩:=hq;have O5:=I (ho.lower B4.o.size);clear b5 ho
    go_wp2_with fail
    go_ret2
    refine⟨B5.o,?_⟩;rw[Mq.o,if_pos rfl,Int.toNat_natCast,Int.toNat_natCast,dZ.o];exact⟨o,cap,rfl,O5.o⟩
theorem Znd(w:World)(c:Crw)(cs:List Value)(x:Use)(k:Int)(ha:ArgR w c cs) :
  Calls Tryz.prog 56 #[.agg cs.toArray,.agg (cQ x).toArray,.int .i64 k] w fun e w'=>e = .returned (.bool (Lh c x k))/\Below w.heap.size w w':=by
 have gV:=ha.nu;have qZ:=ha.ok.nm;have Z6:=ha.ok.nq;have lD:=I (fun W (hW:Below w.heap.size w W)=>Wm W c cs (ha.below hW));have rH:=I (fun(hv:bG c=true) (hx:nG c.qs.length c.ms.length x=true) (n:Nat) (hn:n<c.ms.length) W (hW:Below w.heap.size w W)=>FV W c cs (ha.below hW) hv x n hx hn);have wU:Hid (cM k c.ms.length=true->∃ n:Nat,k=(n:Int)/\n<c.ms.length):=I oZ;have eZ:=I (fun W=>yQ k 0 ((c.ms.length:Int)-1) W);have mZ:Hid (cM k c.ms.length=inB k 0 ((c.ms.length:Int)-1)):=I rfl
 have Cj:Hid (∀ n,n<c.ms.length->(eY c (bS c) x).getD n false=uB c (bS c) x n):=I (fun n hn=>by
  unfold eY
  rw[bR,dK,List.getElem?_range hn];rfl)
 have yE:Hid (Lh c x k=(bG c&&nG c.qs.length c.ms.length x&&cM k c.ms.length&&(eY c (bS c) x).getD k.toNat false)):=I rfl;obtain⟨qo,qc,mo,mc,uo,uc,rfl,-,-⟩:=Tl ha.crw;have pL:=I (fun W=>ZM W qo mo uo c.qs.length c.ms.length c.us.length qc mc uc x (by omega) (by omega));clear ha;obtain⟨cX,hRES⟩:=exq (Lh c x k);rw[hRES] at yE ⊢;clear hRES;obtain⟨vc,iM⟩:=exq (bG c);obtain⟨vu,iJ⟩:=exq (nG c.qs.length c.ms.length x);obtain⟨im,Nj⟩:=exq (cM k c.ms.length);rw[iM] at lD rH yE;rw[iJ] at pL rH yE;rw[Nj] at wU mZ yE;rw[<- mZ.o] at eZ;clear iM iJ Nj mZ;unfold cQ at pL rH ⊢;obtain⟨x0,mG⟩:=exq (x.q);obtain⟨x1,sM⟩:=exq (x.w);obtain⟨x2,Fx⟩:=exq (x.f);obtain⟨x3,xK⟩:=exq (x.h);rw[mG,sM,Fx,xK] at pL rH ⊢;clear mG sM Fx xK;obtain⟨X1,Y1,B1⟩:=Ht w 26 39 [.slice qo c.qs.length qc,.slice mo c.ms.length mc,.slice uo c.us.length uc] [.int .i64 x0,.int .i64 x1,.int .i64 x2,.int .i64 x3];have X1:=I X1;have Y1:=I Y1;have B1:=I B1;generalize c.qs.length=qn at *;generalize lG:c.ms.length=mn at *;generalize jQ:c.us.length=un at *;have fF:=I lG;have dZ:=I jQ;clear lG jQ;have e1:IntKind.i64.wrap ((mn:Int)-1)=(mn:Int)-1:=fU _ (by omega)
 go_enter Tryz.func56,Tryz.ntmps56
 go_upto_region 1 with(fail)
 generalize (w.alloc (.cells #[.slice qo qn qc,.slice mo mn mc,.slice uo un uc] 26)).alloc (.cells #[.int .i64 x0,.int .i64 x1,.int .i64 x2,.int .i64 x3] 39)=w1 at *
 go_wp2_with (refine wpList_load_row rfl 26 (.tmp 3) rfl (w.heap.size) ?x1 26 #[.slice qo qn qc,.slice mo mn mc,.slice uo un uc] (0,0) _ X1.o Tryz.underlying26 rfl (kU _ _ _) ?_;(case x1=>rfl))
 refine(lD.o w1 B1.o).mono ?_;rintro e w2 ⟨rfl,b2⟩;have X2:=X1.st b2;have Y2:=Y1.st b2;have B2:=B1.tr b2;clear b2 X1 Y1 B1 lD
 cases vc with
 | false =>
  have HE:Hid (cX=false):=I (by rw[yE.o];rfl)
  go_wp2_with fail
  go_ret;exact⟨by rw[HE.o];rfl,B2.o⟩
 | true =>
  go_wp2_with (first | (refine Ba (by rfl) 26 (.tmp 3) rfl (w.heap.size) ?x2 26 #[.slice qo qn qc,.slice mo mn mc,.slice uo un uc] (0,0) _ X2.o Tryz.underlying26 rfl (kU _ _ _) ?_;(case x2=>rfl)) | (refine Ba (by rfl) 39 (.tmp 4) rfl (w.heap.size+1) ?y2 39 #[.int .i64 x0,.int .i64 x1,.int .i64 x2,.int .i64 x3] (0,0) _ Y2.o Tryz.underlying39 rfl (pq _ _ _ _) ?_;(case y2=>rfl)))
  refine(pL.o w2).mono ?_;rintro e w3 ⟨rfl,b3⟩;have X3:=X2.st b3;have Y3:=Y2.st b3;have B3:=B2.tr b3;clear b3 X2 Y2 B2 pL
  cases vu with
  | false =>
   have HE:Hid (cX=false):=I (by rw[yE.o];rfl)
   go_wp2_with fail
   go_ret;exact⟨by rw[HE.o];rfl,B3.o⟩
  | true =>
   have c1:=X3.o.cell 1 _ rfl
   go_wp2_with fail
   refine(eZ.o w3).mono ?_;rintro e w3' ⟨rfl,rfl⟩;clear eZ c1
   cases im with
   | false =>
    have HE:Hid (cX=false):=I (by rw[yE.o];rfl)
    go_wp2_with fail
    go_ret;exact⟨by rw[HE.o];rfl,B3.o⟩
   | true =>
    obtain⟨n,rfl,hn⟩:=wU.o rfl;have HE:Hid (cX=uB c (bS c) x n):=I (by rw[yE.o,Int.toNat_natCast,Cj.o n hn];rfl);have HC:=I (rH.o (by trivial) (by trivial) n hn w3 B3.o);rw[<- HE.o] at HC;clear rH yE HE Cj wU
    go_wp2_with (first | (refine Ba (by rfl) 26 (.tmp 3) rfl (w.heap.size) ?x4 26 #[.slice qo qn qc,.slice mo mn mc,.slice uo un uc] (0,0) _ X3.o Tryz.underlying26 rfl (kU _ _ _) ?_;(case x4=>rfl)) | (refine Ba (by rfl) 39 (.tmp 4) rfl (w.heap.size+1) ?y4 39 #[.int .i64 x0,.int .i64 x1,.int .i64 x2,.int .i64 x3] (0,0) _ Y3.o Tryz.underlying39 rfl (pq _ _ _ _) ?_;(case y4=>rfl)))
    refine HC.o.mono ?_;rintro e w4 ⟨rfl,b4⟩;have B4:=B3.tr b4;clear b4
    go_wp2_with fail
    go_ret;exact⟨rfl,B4.o⟩
theorem ZX(w:World)(c:Crw)(cs:List Value)(ha:ArgR w c cs) :
  Calls Tryz.prog 61 #[.agg cs.toArray] w fun e w'=>Ny w w' c e:=by
 have gV:=ha.nu;have lD:=I (fun W (hW:Below w.heap.size w W)=>Wm W c cs (ha.below hW));have cU:=I (fun(h:bG c=true)=>qP h (by omega));have pI:=I (fun W (hW:Below w.heap.size w W) (h:bG c=true)=>fl W c cs (ha.below hW) h);have gP:=I (fun(v:Nat) (hv:bG c=true) (hl:v<c.us.length) W ts (ht:rL W c (aW c) ts)=>ZV W c (aW c) (cU.o hv) ts ht v hl);have bJ:Hid (iW c=if bG c=true then(List.range c.us.length).map (fun u=>(iN c (aW c) u).map Int.ofNat) else []):=I rfl;have iB:Hid (∀ w' o cap,Below w.heap.size w w'->sF w' (iW c) o->Ny w w' c (.returned (.slice o (iW c).length cap))):=I (fun w' o cap hb h=>⟨⟨o,cap,rfl,h⟩,hb⟩);generalize iW c=PA at *;obtain⟨qo,qc,mo,mc,uo,uc,rfl,-,-⟩:=Tl ha.crw;clear ha cU;generalize bG c=vc at *;have X1:=hnw w 26 [.slice qo c.qs.length qc,.slice mo c.ms.length mc,.slice uo c.us.length uc];have B1:=I (bwA w (.cells #[.slice qo c.qs.length qc,.slice mo c.ms.length mc,.slice uo c.us.length uc] 26));generalize c.qs.length=qn at *;generalize lG:c.ms.length=mn at *;generalize jQ:c.us.length=un at *;have fF:=I lG;have dZ:=I jQ;clear lG jQ
 go_enter Tryz.func61,Tryz.ntmps61
 go_upto_region 1 with(fail)
 generalize w.alloc (.cells #[.slice qo qn qc,.slice mo mn mc,.slice uo un uc] 26)=w1 at *
 go_wp2_with (refine wpList_load_row rfl 26 (.tmp 1) rfl (w.heap.size) ?x1 26 #[.slice qo qn qc,.slice mo mn mc,.slice uo un uc] (0,0) _ X1.o Tryz.underlying26 rfl (kU _ _ _) ?_;(case x1=>rfl))
 refine(lD.o w1 B1.o).mono ?_;rintro e w2 ⟨rfl,b2⟩;have X2:=X1.st b2;have B2:=B1.tr b2;clear b2 X1 B1 lD
 cases vc with
 | false =>
  have bK:Hid (PA=[]):=I (by rw[bJ.o];rfl);clear bJ
  go_wp2_with fail
  go_ret;rw[bK.o] at iB;exact iB.o _ none 0 B2.o (.inl rfl)
 | true =>
  have bK:Hid (PA=(List.range un).map (fun u=>(iN c (aW c) u).map Int.ofNat)):=I (by rw[bJ.o,if_pos rfl]);have rR:=I (pI.o w2 B2.o (by trivial));have bw:=I (fun v (hl:v<un)=>gP.o v (by trivial) hl);clear pI gP bJ
  go_upto_region 3 with(fail)
  go_wp2_with (refine wpList_load_row rfl 26 (.tmp 1) rfl (w.heap.size) ?x3 26 #[.slice qo qn qc,.slice mo mn mc,.slice uo un uc] (0,0) _ X2.o Tryz.underlying26 rfl (kU _ _ _) ?_;(case x3=>rfl))
  refine rR.o.mono ?_;rintro e w4 ⟨⟨ts,rfl,xU⟩,b4⟩;have X4:=X2.st b4;have B4:=B2.tr b4;have fA:=I (fun W (hW:Below w4.heap.size w4 W)=>xU.below hW);obtain⟨q2,d1,q3,d2,q4,d3,q5,d4,rfl,-⟩:=xU;generalize sx:c.qs.length=n1 at *;generalize Gm:c.ms.length=n2 at *;generalize Tu:c.us.length=n3 at *;generalize zD:(aW c).length=n4 at *;clear b4 X2 B2 rR sx Gm Tu zD;have O1:=hnw w4 137 [.slice none 0 0,.slice none 0 0,.slice none 0 0,.slice none 0 0];have BO:=I (bwA w4 (.cells #[.slice none 0 0,.slice none 0 0,.slice none 0 0,.slice none 0 0] 137))
  go_upto_region 4 with(refine sG rfl 137 (.tmp 3) (.tmp 10) rfl w4.heap.size #[.slice q2 n1 d1,.slice q3 n2 d2,.slice q4 n3 d3,.slice q5 n4 d4] (by rfl) (by rfl) 137 _ O1.o (pD _ _ _ _) rfl (by simp[Value.oneCell']) ?_;intro w9 s9 u9;have S9:=I s9;have U9:=I u9;clear s9 u9)
  have A9:=I (U9.o.below BO.o (aO _));have S9:Hid (aC w9 w4.heap.size 137 [.slice q2 n1 d1,.slice q3 n2 d2,.slice q4 n3 d3,.slice q5 n4 d4]):=I S9.o;have X9:=X4.st A9.o;have B9:=B4.tr A9.o;have fA:=I (fun W (hW:Below w9.heap.size w9 W)=>fA.o W (A9.o.trans (hW.mono A9.o.size)));obtain⟨iU,hTBK⟩:=exq (w4.heap.size);rw[hTBK] at S9 ⊢;clear O1 BO U9 A9 X4 B4 hTBK;have bx:=bwA w9 (.cells #[] 33);have R5:Hid (RowM IlE 1 w9.heap.size (w9.alloc (.cells #[] 33)) w9.heap.size (fun _=>False) (some ⟨w9.heap.size,0,none⟩) 0 0 (PA.take 0) []):=I (by rw[List.take_zero];exact⟨OwnK.empty w9 w9.heap.size 33 (aO _),rfl,rfl,fun vs h=>absurd h List.not_mem_nil,fun i x vs h=>by simp at h⟩);have W5:=I bx;have X5:=X9.st bx;have S5:=S9.st bx;have mA:Hid (w.heap.size<w9.heap.size/\iU<w9.heap.size):=I ⟨X9.o.lt,S9.o.lt⟩;clear bx X9 S9
  go_upto_region 6 with(fail)
  generalize w9.alloc (.cells #[] 33)=w5 at *
  go_loopw [4,5] (fun ov kv wr=>∃ (k:Nat) (o:Option Addr) (cap:Nat) (vss:List (List Value)),kv = .int .i64 k/\ov = .slice o k cap/\k<=un/\Hid (RowM IlE 1 w9.heap.size wr w9.heap.size (fun _=>False) o k cap (PA.take k) vss)/\Hid (Below w9.heap.size w9 wr)/\Hid (aC wr w.heap.size 26 [.slice qo qn qc,.slice mo mn mc,.slice uo un uc])/\Hid (aC wr iU 137 [.slice q2 n1 d1,.slice q3 n2 d2,.slice q4 n3 d3,.slice q5 n4 d4])) (fun _ k _=>(un-intOf k).toNat)
  case atStart=>exact⟨0,_,0,[],rfl,rfl,by omega,R5,W5,X5,S5⟩
  case round =>
   clear R5 W5 X5 S5;obtain⟨k,o,cap,vss,rfl,rfl,hk,R3,W3,X3,S3⟩:=hrel;have e2:=w1i k (by omega);have c2:=X3.o.cell 2 _ rfl;by_cases bT:k<un
   ·have kk:(k:Int)<un:=by omega
    have nO:=I (bw.o k bT wr _ (fA.o wr W3.o));have dM:Hid (PA.take (k+1)=PA.take k++[(iN c (aW c) k).map Int.ofNat]):=I (by rw[lN,bK.o,dK,List.getElem?_range bT];rfl);have Lt:Hid (∀ g,blk o=some g->g<wr.heap.size):=I (fun g hg=>(R3.o.own.blk_lt hg).2);generalize iN c (aW c) k=PK at *
    go_wp2_with (refine wpList_load_row rfl 137 (.tmp 3) rfl (iU) ?xt 137 #[.slice q2 n1 d1,.slice q3 n2 d2,.slice q4 n3 d3,.slice q5 n4 d4] (0,0) _ S3.o Tryz.underlying137 rfl (pD _ _ _ _) ?_;(case xt=>rfl))
    refine nO.o.mono ?_;rintro e w3 ⟨⟨po,pc,rfl,ho⟩,b3⟩;have E4:Hid (IlE w3 (fun g=>wr.heap.size<=g) (PK.map Int.ofNat) [.slice po PK.length pc]):=I (YI ho _ (fun g hg=>hg));have R4:=I (R3.o.step IlE.keeps b3);have W4:=W3.tr b3;have X4:=X3.st b3;have S4:=S3.st b3;have Cu:=I W3.o.size;clear ho b3 nO R3 W3 X3 S3 c2
    go_wp2_with (at_builtin;refine jM 36 33 (.slice none 0 0) 1 24 Tryz.underlying36 YJ rfl (by omega) (by omega) w3 w9.heap.size rfl (.tmp 19) (.tmp 23) rfl o cap k vss.flatten ?q1 R4.o.own W4.o.size 1 1 #[.slice po PK.length pc] 33 ?q2 rfl (by omega) ?q3 ?q4 ?_;(case q1=>rfl);(case q2=>rfl);(case q3=>intro u hu;simp at hu;subst hu;rfl);(case q4=>omega);intro g5 off5 c5 wa o8 aX b8 bW;have R8:=I (RowM.add IlE.keeps R4.o Lt.o Cu.o (fun g hg=>hg.elim) E4.o rfl o8 aX bW);have W8:=I (W4.o.trans b8);have X8:=I (X4.o.grownBy aX (fun e=>by have h:=(R4.o.own.blk_lt e).1;have:=mA.o;omega));have S8:=I (S4.o.grownBy aX (fun e=>by have h:=(R4.o.own.blk_lt e).1;have:=mA.o;omega));clear o8 aX b8 bW)
    go_roundw
    case rel=>exact⟨k+1,_,_,_,by go_num,rfl,by omega,I (by rw[dM.o];exact R8.o),W8,X8,S8⟩
    case measure=>simp only[intOf];omega
   ·have kk:¬ (k:Int)<un:=by omega
    obtain rfl:un=k:=by omega
    have gO:Hid (PA.length=un):=I (by rw[bK.o,eB,List.length_range]);have dM:Hid (PA.take un=PA):=I (List.take_of_length_le (by rw[gO.o];exact aO _))
    go_wp2_with fail
    go_ret;have key:=iB.o wr o cap (B9.o.trans (W3.o.mono B9.o.size)) (by have:=R3.o.rowsI;rwa [dM.o] at this);rw[gO.o] at key;exact key
theorem Zuk(w:World)(c:Crw)(cs:List Value)(ha:ArgR w c cs) :
  Calls Tryz.prog 63 #[.agg cs.toArray] w fun e w'=>Wi w w' (vT c) e:=by
 have sY:=I (fun W (hW:Below w.heap.size w W)=>ZX W c cs (ha.below hW))
 have Cw:Hid ((iW c).length<=999):=I (by
  unfold iW;split
  ·rw[eB,List.length_range];exact ha.nu
  ·exact Nat.zero_le _)
 have eX:Hid (∀ l∈iW c,l.length<=1000000):=I (fun l hl=>by
  unfold iW at hl
  split at hl
  ·obtain⟨u,-,rfl⟩:=List.mem_map.1 hl
   rw[pd];have h1:=Ta (lJ c (aW c) u) c.ms.length;have:=ha.ok.nm;unfold iN;omega
  ·cases hl)
 unfold Ny at sY;have Yw:Hid (vT c=(iW c).map yO):=I rfl;obtain⟨qo,qc,mo,mc,uo,uc,rfl,-,-⟩:=Tl ha.crw;clear ha;generalize vT c=NF at *;generalize iW c=SF at *;have X1:=hnw w 26 [.slice qo c.qs.length qc,.slice mo c.ms.length mc,.slice uo c.us.length uc];have B1:=I (bwA w (.cells #[.slice qo c.qs.length qc,.slice mo c.ms.length mc,.slice uo c.us.length uc] 26));generalize c.qs.length=qn at *;generalize lG:c.ms.length=mn at *;generalize jQ:c.us.length=un at *;have fF:=I lG;have dZ:=I jQ;clear lG jQ;have iB:Hid (∀ w' o cap n,NF.length=n->Below w.heap.size w w'->OwnK w' w.heap.size 1 n cap (NF.flatMap aZ) o->Wi w w' NF (.returned (.slice o n cap))):=I (fun w' o cap n hn hb h=>by subst hn;exact⟨⟨o,cap,rfl,h⟩,hb⟩);generalize Cx:SF.length=ns at *;have zF:=I Cx;clear Cx
 go_enter Tryz.func63,Tryz.ntmps63
 go_upto_region 1 with(fail)
 generalize w.alloc (.cells #[.slice qo qn qc,.slice mo mn mc,.slice uo un uc] 26)=w1 at *
 go_wp2_with (refine wpList_load_row rfl 26 (.tmp 1) rfl (w.heap.size) ?x1 26 #[.slice qo qn qc,.slice mo mn mc,.slice uo un uc] (0,0) _ X1.o Tryz.underlying26 rfl (kU _ _ _) ?_;(case x1=>rfl))
 refine(sY.o w1 B1.o).mono ?_;rintro e w2 ⟨⟨so,sc,rfl,hs⟩,b2⟩;have B2:=B1.tr b2;have oQ:=I (fun W (hW:Below w2.heap.size w2 W)=>hs.below hW);have rD:=Cw.o;clear b2 B1 X1 sY hs;generalize w2=w9 at *;have O5:=I (OwnK.made w9 3 1);have W5:=I (bwA w9 (.cells #[] 3))
 go_upto_region 4 with(fail)
 generalize w9.alloc (.cells #[] 3)=w5 at *
 go_loopw [4,5] (fun ov kv wr=>∃ (k:Nat) (o:Option Addr) (cap:Nat),kv = .int .i64 k/\ov = .slice o k cap/\k<=ns/\Hid (OwnK wr w9.heap.size 1 k cap ((NF.take k).flatMap aZ) o)/\Hid (Below w9.heap.size w9 wr)) (fun _ k _=>(ns-intOf k).toNat)
 case atStart=>exact⟨0,_,0,rfl,rfl,by omega,I (by simpa using O5.o),W5⟩
 case round =>
  clear O5 W5;obtain⟨k,o,cap,rfl,rfl,hk,O3,B3⟩:=hrel;have e2:=w1i k (by omega);by_cases bT:k<ns
  ·have kk:(k:Int)<ns:=by omega
   obtain⟨row,aS⟩:∃ y,SF[k]?=some y:=⟨_,aL (by rw[zF.o];exact bT)⟩;obtain⟨g,off,bo,bc,Mr,hg,dG,jZ⟩:=(oQ.o wr B3.o).at k row aS;have dM:Hid (NF.take (k+1)=NF.take k++[yO row]):=I (by rw[lN,Yw.o,dK,aS];rfl);have gC:=eX.o row (bU aS);have Xb:=I Mr;subst Mr;by_cases h1:row.length=1
   ·have pK:Hid ([yO row].flatMap aZ=[.int .i64 (row.getD 0 0)]):=I (by unfold yO;rw[if_pos h1];rfl)
    obtain⟨g2,off2,dE,qF,aH⟩:∃ g off,bo=some ⟨g,off,none⟩/\g<wr.heap.size/\dD wr g off (row.flatMap aZ):=by
     rcases jZ with h | h
     ·rw[h] at h1;simp at h1
     ·exact h
    subst dE
    have rO:wr.cell? ⟨g2,off2,none⟩=some (.int .i64 (row.getD 0 0)):=by
     have:=aH 0 (.int .i64 (row.getD 0 0)) (by
      obtain⟨x,hx⟩:=List.length_eq_one_iff.1 h1
      rw[hx];rfl)
     rwa [Nat.add_zero] at this
    rw[h1] at dG;generalize row.getD 0 0=x0 at *;clear aS jZ h1 aH gC
    go_wp2_with (at_builtin;refine jM 33 3 (.int .i64 0) 1 8 Tryz.underlying33 sE rfl (by omega) (by omega) wr w9.heap.size rfl (.tmp 21) (.tmp 28) rfl o cap k ((NF.take k).flatMap aZ) ?q1 O3.o B3.o.size 1 1 #[.int .i64 x0] 3 ?q2 rfl (by omega) ?q3 ?q4 ?_;(case q1=>rfl);(case q2=>rfl);(case q3=>simp[Value.oneCell']);(case q4=>omega);intro g5 off5 c5 wa o8 aX b8 bW;have O8:=I o8;have B8:=I (B3.o.trans b8);clear o8 aX b8 bW)
    go_roundw
    case rel=>exact⟨k+1,_,_,by go_num,rfl,by omega,I (by rw[dM.o,List.flatMap_append,pK.o];exact O8.o),B8⟩
    case measure=>simp only[intOf];omega
   ·have pK:Hid ([yO row].flatMap aZ=[.int .i64 (-1)]):=I (by unfold yO;rw[if_neg h1];rfl)
    have q0:(((row.length:Nat):Int)==1)=false:=by rw[beq_eq_false_iff_ne];omega
    generalize row.length=rl at *;clear aS jZ
    go_wp2_with (at_builtin;refine jM 33 3 (.int .i64 0) 1 8 Tryz.underlying33 sE rfl (by omega) (by omega) wr w9.heap.size rfl (.tmp 30) (.tmp 31) rfl o cap k ((NF.take k).flatMap aZ) ?r1 O3.o B3.o.size 1 1 #[.int .i64 (-1)] 3 ?r2 rfl (by omega) ?r3 ?r4 ?_;(case r1=>rfl);(case r2=>rfl);(case r3=>simp[Value.oneCell']);(case r4=>omega);intro g5 off5 c5 wa o8 aX b8 bW;have O8:=I o8;have B8:=I (B3.o.trans b8);clear o8 aX b8 bW)
    go_roundw
    case rel=>exact⟨k+1,_,_,by go_num,rfl,by omega,I (by rw[dM.o,List.flatMap_append,pK.o];exact O8.o),B8⟩
    case measure=>simp only[intOf];omega
  ·have kk:¬ (k:Int)<ns:=by omega
   obtain rfl:ns=k:=by omega
   have sZ:Hid (NF.length=ns):=I (by rw[Yw.o,eB,zF.o]);have dM:Hid (NF.take ns=NF):=I (List.take_of_length_le (by rw[sZ.o];exact aO _))
   go_wp2_with fail
   go_ret;exact iB.o wr o cap ns sZ.o (B2.o.trans (B3.o.mono B2.o.size)) (by have h:=O3.o;rw[dM.o] at h;exact h.lower B2.o.size)
end
section
open Go.RowKit Go.Sort Go.Maps
def GE(CB fld gq oq ix n lc fn fc:Nat)(fo:Option Addr)(q:Int)(bb:Bool):List Value:=[.slice (some ⟨gq,oq,none⟩) n lc,.int .i64 (ix:Nat),.pointer (some ⟨gq,oq+ix,none⟩),.int .i64 q,.pointer (some ⟨CB,fld,none⟩),.slice fo fn fc,.int .i64 (fn:Nat),.int .i64 ((fn:Int)-1),.bool bb,.bool (!bb)]
end
section
open Go.RowKit Go.Sort Go.Maps
theorem qe(t:Array Value)(h:t.size=81):∃ f:Nat->Value,t=#[f 0,f 1,f 2,f 3,f 4,f 5,f 6,f 7,f 8,f 9,f 10,f 11,f 12,f 13,f 14,f 15,f 16,f 17,f 18,f 19,f 20,f 21,f 22,f 23,f 24,f 25,f 26,f 27,f 28,f 29,f 30,f 31,f 32,f 33,f 34,f 35,f 36,f 37,f 38,f 39,f 40,f 41,f 42,f 43,f 44,f 45,f 46,f 47,f 48,f 49,f 50,f 51,f 52,f 53,f 54,f 55,f 56,f 57,f 58,f 59,f 60,f 61,f 62,f 63,f 64,f 65,f 66,f 67,f 68,f 69,f 70,f 71,f 72,f 73,f 74,f 75,f 76,f 77,f 78,f 79,f 80]/\∀ d,t.getD d undef=f d:=by
 obtain⟨l⟩:=t;have hl:l.length=81:=h
 have e:l=(List.range 81).map (fun i=>l.getD i undef):=by
  apply List.ext_getElem
  ·simp[hl]
  ·intro i h1 h2
   simp[List.getD,h1]
 exact⟨fun i=>l.getD i undef,congrArg List.toArray e,fun d=>by simp⟩
theorem ZY(i:Nat)(h:i<19):i=0\/i=1\/i=2\/i=3\/i=4\/i=5\/i=6\/i=7\/i=8\/i=9\/i=10\/i=11\/i=12\/i=13\/i=14\/i=15\/i=16\/i=17\/i=18:=by omega
def Z4x(CB gq oq gu ou ix n lc qn qc mn mc un uc:Nat)(qo mo uo:Option Addr)(q x0 x1 x2 x3:Int)(bb:Bool):List Value:=[.agg #[.slice qo qn qc,.slice mo mn mc,.slice uo un uc],.pointer (some ⟨CB,2,none⟩),.slice uo un uc,.int .i64 (ix:Nat),.pointer (some ⟨gu,ou+ix*4,none⟩),.agg #[.int .i64 x0,.int .i64 x1,.int .i64 x2,.int .i64 x3],.slice (some ⟨gq,oq,none⟩) n lc,.int .i64 (ix:Nat),.pointer (some ⟨gq,oq+ix,none⟩),.int .i64 q,.bool bb,.bool (!bb)]
def ZZ(CB TB gq oq gm om ix k n lc wd n0 qn qc mn mc un uc nb bc nt tc:Nat)(qo mo uo bo to':Option Addr)(mr tk:Int)(bb:Bool):List Value:=[.agg #[.slice qo qn qc,.slice mo mn mc,.slice uo un uc,.slice none 0 0],.slice (some ⟨gq,oq,none⟩) n lc,.slice (some ⟨gq,oq,none⟩) n lc,.int .i64 (ix:Nat),.pointer (some ⟨gq,oq+ix,none⟩),.int .i64 (k:Nat),.int .i64 (wd:Nat),.int .i64 (n0:Nat),.pointer (some ⟨CB,1,none⟩),.slice (some ⟨gm,om,none⟩) mn mc,.slice (some ⟨gq,oq,none⟩) n lc,.int .i64 (ix:Nat),.pointer (some ⟨gq,oq+ix,none⟩),.int .i64 (k:Nat),.pointer (some ⟨gm,om+k*3,none⟩),.agg #[.slice bo nb bc,.slice to' nt tc,.int .i64 mr],.int .i64 (wd:Nat),.int .i64 tk,.bool bb]
theorem a8(c:Crw)(l:List Int)(m v:Int):∀ n,0<kT c l n m v->∃ j,j<n/\l.getD j 0=m/\nI c j=v/\kT c l (j+1) m v=kT c l n m v
 | 0,h=>absurd h (by unfold kT;simp)
 | n+1,h=>by
  have h1:=FI c l n m v;by_cases e:m=l.getD n 0/\v=nI c n
  ·exact⟨n,Nat.lt_succ_self n,e.1.symm,e.2.symm,rfl⟩
  ·rw[if_neg e] at h1
   obtain⟨j,a1,a2,a3,a4⟩:=a8 c l m v n (by omega);exact⟨j,by omega,a2,a3,by omega⟩
theorem c8(c:Crw)(l:List Int)(m v:Int)(i:Nat):∀ d,kT c l i m v<=kT c l (i+d) m v
 | 0=>aO _
 | d+1=>by
  have h1:=FI c l (i+d) m v;have h2:=c8 c l m v i d
  have h3:kT c l (i+d) m v<=kT c l (i+d+1) m v:=by
   split at h1<;>omega
  exact dQ h2 h3
theorem Zyh(c:Crw)(l:List Int)(i n:Nat)(h:i<n):0<kT c l n (l.getD i 0) (nI c i):=by
 unfold kT;rw[List.countP_pos_iff];exact⟨i,List.mem_range.2 h,by simp⟩
def Hx(c:Crw)(l:List Int)(i:Nat):Bool:=cM (l.getD i 0) c.ms.length&&((aW c).getD i []).getD (l.getD i 0).toNat false
def Hy(c:Crw)(l:List Int)(n i:Nat):Bool:=decide (((kT c l n (l.getD i 0) (nI c i):Nat):Int)<=eI (c.ms.getD (l.getD i 0).toNat ⟨[],[],0⟩).t (nI c i).toNat)
theorem Z07(c:Crw)(l:List Int)(n:Nat):(List.range n).all (rK c l)=((List.range n).all (Hx c l)&&(List.range n).all (Hy c l n)):=by
 rw[Bool.eq_iff_iff,dB,List.all_eq_true,List.all_eq_true,List.all_eq_true];constructor
 ·intro h
  refine⟨fun i hi=>?_,fun i hi=>?_⟩
  ·have h1:=h i hi
   unfold rK at h1;rw[dB] at h1;exact h1.1
  ·obtain⟨j,a1,a2,a3,a4⟩:=a8 c l (l.getD i 0) (nI c i) n (Zyh c l i n (List.mem_range.1 hi))
   have h1:=h j (List.mem_range.2 a1);unfold rK at h1;rw[dB] at h1;have h2:=h1.2;rw[a2,a3,a4] at h2;exact h2
 ·rintro⟨h1,h2⟩ i hi
  unfold rK;rw[dB];refine⟨h1 i hi,?_⟩;have h3:=h2 i hi;unfold Hy at h3;rw[decide_eq_true_eq] at h3 ⊢;have hi:=List.mem_range.1 hi;have h4:=c8 c l (l.getD i 0) (nI c i) (i+1) (n-(i+1))
  have e:i+1+(n-(i+1))=n:=by omega
  rw[e] at h4;omega
theorem Z2v(l:List Int):lA l.length (fun i=>l.getD i 0)=l:=by
 apply List.ext_getElem?;intro i;by_cases h:i<l.length
 ·rw[ey _ h,bR,aL h];rfl
 ·rw[List.getElem?_eq_none (by rw[ph];omega),List.getElem?_eq_none (by omega)]
theorem Zyi(w:World)(c:Crw)(cs:List Value)(l:List Int)(lo:Option Addr)(lc:Nat)(ha:ArgR w c cs)(hl:aY aZ w lo l)(fX:l.length<=1000000) :
  Calls Tryz.prog 57 #[.agg cs.toArray,.slice lo l.length lc] w fun e w'=>e = .returned (.bool (Lj c l))/\Below w.heap.size w w':=by
 have gV:=ha.nu;have qZ:=ha.ok.nm;have lD:=I (fun W (hW:Below w.heap.size w W)=>Wm W c cs (ha.below hW));have cU:=I (fun(h:bG c=true)=>qP h (by omega));have rH:=I (fun(hv:bG c=true) i x (hx:c.us[i]?=some x) (k:Nat) (hk:k<c.ms.length) W (hW:Below w.heap.size w W)=>FV W c cs (ha.below hW) hv x k ((tL hv).2.2.2.2.2 x (bU hx)) hk)
 have k_:Hid (∀ i x k,c.us[i]?=some x->k<c.ms.length->((aW c).getD i []).getD k false=uB c (bS c) x k):=I (fun i x k hx hk=>by
  unfold aW;rw[bR (l:=c.us.map _),dK,hx];show(eY c (bS c) x).getD k false=_;unfold eY
  rw[bR,dK,List.getElem?_range hk];rfl)
 have wU:Hid (∀ q,cM q c.ms.length=true->∃ k:Nat,q=(k:Int)/\k<c.ms.length):=I (fun q=>oZ);have eZ:=I (fun q W=>yQ q 0 ((c.ms.length:Int)-1) W);have mZ:Hid (∀ q,inB q 0 ((c.ms.length:Int)-1)=cM q c.ms.length):=I (fun q=>rfl);have vG:Hid (IntKind.i64.wrap ((c.ms.length:Int)-1)=(c.ms.length:Int)-1):=I (fU _ (by omega));have yE:Hid (∀ i,Hx c l i=(cM (l.getD i 0) c.ms.length&&((aW c).getD i []).getD (l.getD i 0).toNat false)):=I (fun i=>rfl);have l_:Hid (∀ n i,Hy c l n i=decide (((kT c l n (l.getD i 0) (nI c i):Nat):Int)<=eI (c.ms.getD (l.getD i 0).toNat ⟨[],[],0⟩).t (nI c i).toNat)):=I (fun n i=>rfl);have nY:Hid (Lj c l=(bG c&&decide (l.length=c.us.length)&&(List.range l.length).all (rK c l))):=I rfl;have Rj:=I (Z07 c l l.length)
 have zH:Hid (∀ i x,c.us[i]?=some x->nI c i=x.w):=I (fun i x hx=>by
  unfold nI
  rw[bR,hx];rfl)
 have sL:Hid (∀ (m:Int) (v:Nat),l.length=c.us.length->bG c=true->(List.range c.us.length).countP (fun i=>l.getD i 0==m&&(aR c []).win i==v)=kT c l l.length m (v:Int)):=I (fun m v h1 hv=>by
  unfold kT;rw[h1];refine List.countP_congr (fun i hi=>?_);have hi:=List.mem_range.1 hi;have hw:=(cU.o hv).win c.us[i] (List.getElem_mem hi)
  have e1:nI c i=c.us[i].w:=by unfold nI;rw[bR,aL hi];rfl
  have e2:(aR c []).win i=c.us[i].w.toNat:=by show(c.us.getD i ⟨0,0,0,0⟩).w.toNat=_;rw[bR,aL hi];rfl
  rw[e1,e2]
  have:(c.us[i].w.toNat==v)=(c.us[i].w==(v:Int)):=by
   rw[Bool.eq_iff_iff,beq_iff_eq,beq_iff_eq];omega
  rw[this])
 have fQ:=I (fun W (hW:Below w.heap.size w W)=>hl.below hW);obtain⟨qo,qc,mo,mc,uo,uc,rfl,dL,cN,dN,-⟩:=ha.crw;have nA:=I (fun W (hW:Below w.heap.size w W)=>cN.below hW);have jJ:=I (fun W (hW:Below w.heap.size w W)=>dN.below hW);have fA:=I (fun W (hW:Below w.heap.size w W)=>(show rL W c [] [.slice qo c.qs.length qc,.slice mo c.ms.length mc,.slice uo c.us.length uc,.slice none 0 0] from ⟨qo,qc,mo,mc,uo,uc,none,0,rfl,dL.below hW,cN.below hW,dN.below hW,.inl rfl⟩));have qL:=I (fun(hv:bG c=true) W (hW:Below w.heap.size w W) lo' (uJ:aY aZ W lo' (lA c.us.length (fun i=>l.getD i 0))) (m:Int) (wd:Nat)=>ZR W c [] (cU.o hv).nu (cU.o hv).win _ (fA.o W hW) (fun i=>l.getD i 0) lo' lc uJ m wd);have Gl:=I (fun(hv:bG c=true) j m (h:c.ms[j]?=some m) k=>qd (cU.o hv) h k);have zL:=I (fun(hv:bG c=true) x (hx:x∈c.us)=>(cU.o hv).win x hx);clear ha hl dL cN dN fA cU;generalize Lj c l=cX at *;obtain⟨n,hn⟩:=exq (l.length);rw[hn] at fX nY Rj sL ⊢;have rD:=I hn;clear hn;generalize iM:bG c=vc at *;have HVE:=I iM;clear iM;have X1:=hnw w 26 [.slice qo c.qs.length qc,.slice mo c.ms.length mc,.slice uo c.us.length uc];have B1:=I (bwA w (.cells #[.slice qo c.qs.length qc,.slice mo c.ms.length mc,.slice uo c.us.length uc] 26));generalize c.qs.length=qn at *;generalize lG:c.ms.length=mn at *;generalize jQ:c.us.length=un at *;have fF:=I lG;have dZ:=I jQ;clear lG jQ
 go_enter Tryz.func57,Tryz.ntmps57
 go_upto_region 1 with(fail)
 generalize w.alloc (.cells #[.slice qo qn qc,.slice mo mn mc,.slice uo un uc] 26)=w1 at *
 go_wp2_with (refine wpList_load_row rfl 26 (.tmp 2) rfl (w.heap.size) ?x1 26 #[.slice qo qn qc,.slice mo mn mc,.slice uo un uc] (0,0) _ X1.o Tryz.underlying26 rfl (kU _ _ _) ?_;(case x1=>rfl))
 refine(lD.o w1 B1.o).mono ?_;rintro e w2 ⟨rfl,b2⟩;have X2:=X1.st b2;have B2:=B1.tr b2;clear b2 X1 B1 lD;have c2:=X2.o.cell 2 _ rfl
 cases vc with
 | false =>
  have HE:Hid (cX=false):=I (by rw[nY.o];rfl)
  go_wp2_with fail
  go_ret;exact⟨by rw[HE.o];rfl,B2.o⟩
 | true =>
 by_cases dH:n=un
 ·subst dH
  have q0:(((n:Nat):Int) != ((n:Nat):Int))=false:=by simp
  have sO:Hid (cX=((List.range n).all (Hx c l)&&(List.range n).all (Hy c l n))):=I (by rw[nY.o,Rj.o];simp);have sL:=I (fun m v=>sL.o m v rfl (by trivial));have qL:=I (fun W hW lo' uJ m wd=>qL.o (by trivial) W hW lo' uJ m wd);clear nY Rj
  go_upto_region 3 with(fail)
  clear c2;have O1:=hnw w2 137 [.slice none 0 0,.slice none 0 0,.slice none 0 0,.slice none 0 0];have BO:=I (bwA w2 (.cells #[.slice none 0 0,.slice none 0 0,.slice none 0 0,.slice none 0 0] 137))
  go_upto_region 5 with(first | (refine wpList_load_row rfl 26 (.tmp 2) rfl (w.heap.size) ?x3 26 #[.slice qo qn qc,.slice mo mn mc,.slice uo n uc] (0,0) _ X2.o Tryz.underlying26 rfl (kU _ _ _) ?_;(case x3=>rfl)) | (refine sG rfl 137 (.tmp 5) (.tmp 21) rfl w2.heap.size #[.slice qo qn qc,.slice mo mn mc,.slice uo n uc,.slice none 0 0] (by rfl) (by rfl) 137 _ O1.o (pD _ _ _ _) rfl (by simp[Value.oneCell']) ?_;intro w9 s9 u9;have S9:=I s9;have U9:=I u9;clear s9 u9))
  have A9:=I (U9.o.below BO.o (aO _));have S9:Hid (aC w9 w2.heap.size 137 [.slice qo qn qc,.slice mo mn mc,.slice uo n uc,.slice none 0 0]):=I S9.o;have X9:=X2.st A9.o;have B9:=B2.tr A9.o;obtain⟨iU,hTBK⟩:=exq (w2.heap.size);rw[hTBK] at S9 ⊢;clear O1 BO U9 A9 X2 B2 hTBK
  go_loopw [6] (fun iv wr=>∃ (i:Nat),iv = .int .i64 i/\i<=n/\Hid (∀ y∈(List.range n).take i,Hx c l y=true)/\Hid (Below w.heap.size w wr)/\Hid (aC wr w.heap.size 26 [.slice qo qn qc,.slice mo mn mc,.slice uo n uc])/\Hid (aC wr iU 137 [.slice qo qn qc,.slice mo mn mc,.slice uo n uc,.slice none 0 0])) (fun i _=>(n-intOf i).toNat)
  case atStart=>exact⟨0,rfl,by omega,I (by simp),B9,X9,S9⟩
  case round =>
   clear B9 X9 S9;obtain⟨ix,rfl,hi,HA,BR,XR,SR⟩:=hrel;have e2:=w1i ix (by omega);by_cases aT:ix<n
   ·have ii:(ix:Int)<n:=by omega
    have mH:=I ii;obtain⟨q,hq⟩:∃ q,l[ix]?=some q:=⟨_,aL (by rw[rD.o];exact aT)⟩;have Hb:Hid (l.getD ix 0=q):=I (by rw[bR,hq];rfl);have rU:Hid ((List.range n)[ix]?=some ix):=I (List.getElem?_range aT);obtain⟨gq,oq,fI,pP,eK⟩:=(fQ.o wr BR.o).at jN ix q hq;have y0:=eK 0 _ rfl;rw[Nat.mul_one,Nat.add_zero] at y0;have kQ:=I (fun W (hW:Below wr.heap.size wr W)=>(hW.cell (p:=⟨gq,oq+ix,none⟩) pP).trans y0);have bZ:=I (fun W (hW:Below wr.heap.size wr W)=>XR.o.step hW);have eZ:=I (fun W=>eZ.o q W);rw[mZ.o] at eZ;obtain⟨bb,dJ⟩:=exq (cM q mn);rw[dJ] at eZ;have Hc:=I dJ;have Gd:=I fI;clear dJ hq eK y0 pP;subst fI
    go_upto_region 7 with(fail)
    refine oK (lF (GE w.heap.size 1 gq oq ix n lc mn mc mo q bb)) (by kernel_rfl) (fun _ _ _ _ h _=>h) (jD (by kernel_rfl)) (oJ (by kernel_rfl)) (iV (by kernel_rfl)) ?hs ?he
    case hs =>
     intro i o hi listed a' w' H aU;have hb:=I H.below;obtain⟨t',df⟩:=a';obtain⟨f',rfl,hf⟩:=qe t' H.tsize;obtain rfl:df=[]:=H.defers;have cG:f' 1 = .slice (some ⟨gq,oq,none⟩) n lc:=H.sm 1 (by kernel_rfl);have eC:f' 2 = .pointer (some ⟨w.heap.size,0,none⟩):=H.sm 2 (by kernel_rfl);have dP:f' 6 = .int .i64 (ix:Nat):=H.sm 6 (by kernel_rfl);have aA:=H.hL aU hf;clear aU H hf;rcases en i (lI.1 hi).1 with rfl | rfl | rfl | rfl | rfl | rfl | rfl | rfl | rfl | rfl<;>obtain rfl:=bF hi;rw[cG]
     rotate_left
     rw[dP]
     rotate_left
     rw[aA 0 28 rfl rfl,aA 1 29 rfl rfl];have ii:=mH.o
     rotate_left
     rw[aA 2 30 rfl rfl];have p0:=kQ.o w' hb.o
     rotate_left
     rw[eC]
     rotate_left
     rw[aA 4 32 rfl rfl];have c0:=(bZ.o w' hb.o).cell 1 _ rfl
     rotate_left
     rw[aA 5 33 rfl rfl]
     rotate_left
     rw[aA 6 34 rfl rfl];have e1:=vG.o
     rotate_left
     ·have dC:=aA 3 31 rfl rfl
      have jA:=aA 7 35 rfl rfl;clear aA;rw[dC,jA];clear dC jA cG eC dP;refine aP rfl ?_
      go_wp2_with fail
      refine(eZ.o w').mono ?_;rintro e w4 ⟨rfl,rfl⟩
      go_wp2_with fail
      exact aI ⟨_,rfl,aG _ _,rfl⟩
     rw[aA 8 36 rfl rfl]
     rotate_left
     all_goals clear aA cG eC dP
     all_goals (refine aP rfl ?_;go_wp2_with fail;exact aI ⟨_,rfl,aG _ _,rfl⟩)
    case he =>
     intro listed a' w4 H aD;have pJ:=H.done 9 _ 37 rfl (aD 9 (by decide)) rfl;have aK:=I H.below;obtain⟨zf,hz,rfl⟩:=H.actz [28,29,30,31,32,33,34,35,36,37] (oL (by kernel_rfl));rw[hz] at pJ;clear H aD hz;simp only[fcL,fnL,Act.put,sbT,scS,scZ];rw[show zf 37=_ from pJ];clear pJ;have B7:=BR.tr aK.o;have X7:=I (bZ.o _ aK.o);have S7:=SR.st aK.o;clear aK BR XR SR kQ bZ eZ
     cases bb with
     | false =>
      have HE:Hid (cX=false):=I (by
       rw[sO.o,xD rU.o (f:=Hx c l) (by rw[yE.o,Hb.o,Hc.o];rfl)];rfl)
      go_wp2_with fail
      go_ret;exact⟨aF HE.o.symm,B7.o⟩
     | true =>
      obtain⟨k,hk,oR⟩:=wU.o q Hc.o;obtain⟨x,hx⟩:∃ x,c.us[ix]?=some x:=⟨_,aL (by rw[dZ.o];exact aT)⟩;have My:=I (fun W (hW:Below w4.heap.size w4 W)=>rH.o (by trivial) ix x hx k oR W (B7.o.trans (hW.mono B7.o.size)));have rT:=I (k_.o ix x k hx oR);obtain⟨eb,OP⟩:=exq (uB c (bS c) x k);rw[OP] at My rT;have OQ:Hid (Hx c l ix=eb):=I (by rw[yE.o,Hb.o,Hc.o,hk,Int.toNat_natCast,rT.o];rfl);obtain⟨gu,ou,eV,iZ,cF⟩:=(jJ.o w4 B7.o).at mN ix x hx;have Ds:=I (fun W (hW:Below w4.heap.size w4 W)=>(⟨(hW.cell (p:=⟨gu,ou+ix*4,none⟩) iZ).trans (cF 0 _ rfl),(hW.cell (p:=⟨gu,ou+ix*4+1,none⟩) iZ).trans (cF 1 _ rfl),(hW.cell (p:=⟨gu,ou+ix*4+2,none⟩) iZ).trans (cF 2 _ rfl),(hW.cell (p:=⟨gu,ou+ix*4+3,none⟩) iZ).trans (cF 3 _ rfl)⟩:_/\_/\_/\_))
      obtain⟨g3,o3,xS,uX,qE⟩:=(fQ.o w4 B7.o).at jN ix q (by
       have h:=Hb.o;rw[bR,aL (by rw[rD.o];exact aT)] at h;rw[aL (by rw[rD.o];exact aT)]
       exact congrArg some h)
      cases xS;have y0:=qE 0 _ rfl;rw[Nat.mul_one,Nat.add_zero] at y0;have kQ:=I (fun W (hW:Below w4.heap.size w4 W)=>(hW.cell (p:=⟨gq,oq+ix,none⟩) uX).trans y0);have bZ:=I (fun W (hW:Below w4.heap.size w4 W)=>X7.o.step hW);have Vl:=I ii;unfold cQ at My;obtain⟨x0,mG⟩:=exq (x.q);obtain⟨x1,sM⟩:=exq (x.w);obtain⟨x2,Fx⟩:=exq (x.f);obtain⟨x3,xK⟩:=exq (x.h);rw[mG,sM,Fx,xK] at My Ds;rw[<- hk] at My;have HKQ:=I hk;clear hk;clear hx cF iZ qE y0 uX OP mG sM Fx xK rT;have Mg:=I eV;subst eV
      go_upto_region 9 with(fail)
      refine oK (lF (Z4x w.heap.size gq oq gu ou ix n lc qn qc mn mc n uc qo mo (some ⟨gu,ou,none⟩) q x0 x1 x2 x3 eb)) (by kernel_rfl) (fun _ _ _ _ h _=>h) (jD (by kernel_rfl)) (oJ (by kernel_rfl)) (iV (by kernel_rfl)) ?hs ?he
      case hs =>
       intro i o hi listed a' w' H aU;have hb:=I H.below;obtain⟨t',df⟩:=a';obtain⟨f',rfl,hf⟩:=qe t' H.tsize;obtain rfl:df=[]:=H.defers;have cG:f' 1 = .slice (some ⟨gq,oq,none⟩) n lc:=H.sm 1 (by kernel_rfl);have eC:f' 2 = .pointer (some ⟨w.heap.size,0,none⟩):=H.sm 2 (by kernel_rfl);have dP:f' 6 = .int .i64 (ix:Nat):=H.sm 6 (by kernel_rfl);have aA:=H.hL aU hf;clear aU H hf;rcases Zty i (lI.1 hi).1 with rfl | rfl | rfl | rfl | rfl | rfl | rfl | rfl | rfl | rfl | rfl | rfl<;>obtain rfl:=bF hi;rw[eC];have hx:=bZ.o w' hb.o;obtain⟨c0,c1,c2⟩:=hx.c3;clear hx
       rotate_left
       rw[eC]
       rotate_left
       rw[aA 1 39 rfl rfl];have c2:=(bZ.o w' hb.o).cell 2 _ rfl
       rotate_left
       rw[dP]
       rotate_left
       rw[aA 2 40 rfl rfl,aA 3 41 rfl rfl];have iu:=Vl.o
       rotate_left
       rw[aA 4 42 rfl rfl];obtain⟨u0,u1,u2,u3⟩:=Ds.o w' hb.o
       rotate_left
       rw[cG]
       rotate_left
       rw[dP]
       rotate_left
       rw[aA 6 44 rfl rfl,aA 7 45 rfl rfl];have ii:=mH.o
       rotate_left
       rw[aA 8 46 rfl rfl];have p0:=kQ.o w' hb.o
       rotate_left
       ·have fT:=aA 0 38 rfl rfl
        have dR:=aA 5 43 rfl rfl;have oA:=aA 9 47 rfl rfl;clear aA;rw[fT,dR,oA];clear fT dR oA cG eC dP;refine aP rfl ?_
        go_wp2_with fail
        refine(My.o w' hb.o).mono ?_;rintro e w4 ⟨rfl,b4⟩;have bC:=I b4;clear b4
        go_wp2_with fail
        exact aI ⟨_,rfl,bC.o,rfl⟩
       rw[aA 10 48 rfl rfl]
       rotate_left
       all_goals clear aA cG eC dP
       all_goals (refine aP rfl ?_;go_wp2_with fail;exact aI ⟨_,rfl,aG _ _,rfl⟩)
      case he =>
       intro listed a' w5 H aD;have xX:=H.done 11 _ 49 rfl (aD 11 (by decide)) rfl;have aK:=I H.below;obtain⟨zf,hz,rfl⟩:=H.actz [38,39,40,41,42,43,44,45,46,47,48,49] (oL (by kernel_rfl));rw[hz] at xX;clear H aD hz;simp only[fcL,fnL,Act.put,sbT,scS,scZ];rw[show zf 49=_ from xX];clear xX;have B8:=B7.tr aK.o;have X8:=I (bZ.o _ aK.o);have S8:=S7.st aK.o;clear aK B7 X7 S7 kQ bZ My Ds
       cases eb with
       | false =>
        have HE:Hid (cX=false):=I (by rw[sO.o,xD rU.o (f:=Hx c l) OQ.o];rfl)
        go_wp2_with fail
        go_ret;exact⟨aF HE.o.symm,B8.o⟩
       | true =>
        have Jv:=I (Pd (f:=Hx c l) rU.o OQ.o HA.o)
        go_wp2_with fail
        go_roundw
        case rel=>exact⟨ix+1,by go_num,by omega,Jv,B8,X8,S8⟩
        case measure=>simp only[intOf];omega
   ·have ii:¬ (ix:Int)<n:=by omega
    have Ra:Hid (cX=(List.range n).all (Hy c l n)):=I (by rw[sO.o,Tm (f:=Hx c l) (by rw[List.length_range];omega) HA.o,cH]);have kt:Hid (∀ i,i<n->Hx c l i=true):=I (fun i hi=>HA.o i (by rw[List.take_of_length_le (by rw[List.length_range];omega)];exact List.mem_range.2 hi));clear sO HA
    go_upto_region 12 with(fail)
    go_loopw [7] (fun iv wr=>∃ (i:Nat),iv = .int .i64 i/\i<=n/\Hid (∀ y∈(List.range n).take i,Hy c l n y=true)/\Hid (Below w.heap.size w wr)/\Hid (aC wr w.heap.size 26 [.slice qo qn qc,.slice mo mn mc,.slice uo n uc])/\Hid (aC wr iU 137 [.slice qo qn qc,.slice mo mn mc,.slice uo n uc,.slice none 0 0])) (fun i _=>(n-intOf i).toNat)
    case atStart=>exact⟨0,rfl,by omega,I (by simp),BR,XR,SR⟩
    case round =>
     clear BR XR SR ii hi;obtain⟨ix,rfl,hi,HA,BR,XR,SR⟩:=hrel;have e2:=w1i ix (by omega);by_cases aT:ix<n
     ·have ii:(ix:Int)<n:=by omega
      have mH:=I ii;obtain⟨q,hq⟩:∃ q,l[ix]?=some q:=⟨_,aL (by rw[rD.o];exact aT)⟩;have Hb:Hid (l.getD ix 0=q):=I (by rw[bR,hq];rfl);have rU:Hid ((List.range n)[ix]?=some ix):=I (List.getElem?_range aT);have nN:=kt.o ix aT;rw[yE.o,Hb.o,dB] at nN;obtain⟨k,hk,oR⟩:=wU.o q nN.1;clear nN;subst hk
      have kk:(k:Int)<mn:=by omega
      have wB:=I kk;obtain⟨x,hx⟩:∃ x,c.us[ix]?=some x:=⟨_,aL (by rw[dZ.o];exact aT)⟩;have Yd:=zL.o (by trivial) x (bU hx);obtain⟨wd,wP⟩:∃ v:Nat,x.w=(v:Int):=⟨x.w.toNat,by omega⟩;have AS:Hid (nI c ix=(wd:Int)):=I (by rw[zH.o ix x hx,wP]);obtain⟨gu,ou,eV,iZ,cF⟩:=(jJ.o wr BR.o).at mN ix x hx;have u1:wr.cell? ⟨gu,ou+ix*4+1,none⟩=some (.int .i64 x.w):=cF 1 _ rfl;rw[wP] at u1
      have m_:wd<=15:=by omega
      clear cF iZ hx Yd wP;obtain⟨gq,oq,fI,pP,eK⟩:=(fQ.o wr BR.o).at jN ix (k:Int) hq;have y0:=eK 0 _ rfl;rw[Nat.mul_one,Nat.add_zero] at y0;have kQ:=I (fun W (hW:Below wr.heap.size wr W)=>(hW.cell (p:=⟨gq,oq+ix,none⟩) pP).trans y0);have bZ:=I (fun W (hW:Below wr.heap.size wr W)=>XR.o.step hW);have mY:=I (fun W (hW:Below wr.heap.size wr W)=>SR.o.step hW)
      have qL:=I (fun W (hW:Below wr.heap.size wr W)=>qL.o trivial W (BR.o.trans (hW.mono BR.o.size)) lo (by
       have h:=fQ.o W (BR.o.trans (hW.mono BR.o.size));have e:=Z2v l;rw[rD.o] at e
       rw[e];exact h) (k:Int) wd)
      rw[sL.o] at qL
      case a=>trivial
      try (case a=>trivial)
      obtain⟨n0,rB⟩:∃ v,kT c l n (k:Int) (wd:Int)=v:=⟨_,rfl⟩;rw[rB] at qL;obtain⟨m,hm⟩:∃ m,c.ms[k]?=some m:=⟨_,aL (by rw[fF.o];exact oR)⟩;obtain⟨vB,-,tS⟩:=Gl.o (by trivial) k m hm wd;obtain⟨gm,om,csm,lC,gI,dX,nB⟩:=(nA.o wr BR.o).at k m hm;have dM:=I (fun W (hW:Below wr.heap.size wr W)=>FT W m csm (dX.below hW) wd (by omega) (by omega))
      have tQ:Hid (Hy c l n ix=decide ((n0:Int)<=eI m.t wd)):=I (by
       rw[l_.o,Hb.o,AS.o,rB,Int.toNat_natCast,Int.toNat_natCast,bR,hm];rfl)
      obtain⟨tk,yF⟩:=exq (eI m.t wd);rw[yF] at dM tQ;obtain⟨bo,bc,to',tc,rfl,-,-⟩:=dX;have p0:wr.cell? ⟨gm,om+k*3,none⟩=some (.slice bo m.b.length bc):=nB 0 _ rfl;have p1:wr.cell? ⟨gm,om+k*3+1,none⟩=some (.slice to' m.t.length tc):=nB 1 _ rfl;have p2:wr.cell? ⟨gm,om+k*3+2,none⟩=some (.int .i64 m.r):=nB 2 _ rfl;have qK:=I (fun W (hW:Below wr.heap.size wr W)=>(⟨(hW.cell (p:=⟨gm,om+k*3,none⟩) gI).trans p0,(hW.cell (p:=⟨gm,om+k*3+1,none⟩) gI).trans p1,(hW.cell (p:=⟨gm,om+k*3+2,none⟩) gI).trans p2⟩:_/\_/\_));generalize m.b.length=nb at *;generalize m.t.length=nt at *;generalize m.r=mr at *;clear hm gI nB p0 p1 p2 vB tS rB yF eK y0 pP hq;have Mg:=I eV;have Gi:=I lC;have Gd:=I fI;subst eV;subst lC;subst fI;have c2:=XR.o.cell 2 _ rfl
      go_upto_region 15 with(fail)
      clear c2 u1;by_cases aE:(n0:Int)<=tk
      ·have Rt:Hid (¬ tk<(n0:Int)):=I (by omega)
       refine oK (lF (ZZ w.heap.size iU gq oq gm om ix k n lc wd n0 qn qc mn mc n uc nb bc nt tc qo (some ⟨gm,om,none⟩) (some ⟨gu,ou,none⟩) bo to' mr tk false)) (by kernel_rfl) (fun _ _ _ _ h _=>h) (jD (by kernel_rfl)) (oJ (by kernel_rfl)) (iV (by kernel_rfl)) ?hs ?he
       case hs =>
        intro i o hi listed a' w' H aU;have hb:=I H.below;obtain⟨t',df⟩:=a';obtain⟨f',rfl,hf⟩:=qe t' H.tsize;obtain rfl:df=[]:=H.defers;have cG:f' 1 = .slice (some ⟨gq,oq,none⟩) n lc:=H.sm 1 (by kernel_rfl);have eC:f' 2 = .pointer (some ⟨w.heap.size,0,none⟩):=H.sm 2 (by kernel_rfl);have cD:f' 5 = .pointer (some ⟨iU,0,none⟩):=H.sm 5 (by kernel_rfl);have cZ:f' 7 = .int .i64 (ix:Nat):=H.sm 7 (by kernel_rfl);have nQ:f' 8 = .int .i64 (wd:Nat):=H.sm 8 (by kernel_rfl);have aA:=H.hL aU hf;clear aU H hf;rcases ZY i (lI.1 hi).1 with rfl | rfl | rfl | rfl | rfl | rfl | rfl | rfl | rfl | rfl | rfl | rfl | rfl | rfl | rfl | rfl | rfl | rfl | rfl<;>obtain rfl:=bF hi;rw[cD];have hx:=mY.o w' hb.o;obtain⟨c0,c1,c2,c3⟩:=hx.c4;clear hx
        rotate_left
        rw[cG]
        rotate_left
        rw[cG]
        rotate_left
        rw[cZ]
        rotate_left
        rw[aA 2 64 rfl rfl,aA 3 65 rfl rfl];have ii:=mH.o
        rotate_left
        rw[aA 4 66 rfl rfl];have p0:=kQ.o w' hb.o
        rotate_left
        rw[nQ]
        rotate_left
        ·have fT:=aA 0 62 rfl rfl
         have fY:=aA 1 63 rfl rfl;have dR:=aA 5 67 rfl rfl;have iL:=aA 6 68 rfl rfl;clear aA;rw[fT,fY,dR,iL];clear fT fY dR iL cG eC cD cZ nQ;refine aP rfl ?_
         go_wp2_with fail
         refine(qL.o w' hb.o).mono ?_;rintro e w4 ⟨rfl,b4⟩;have bC:=I b4;clear b4
         go_wp2_with fail
         exact aI ⟨_,rfl,bC.o,rfl⟩
        rw[eC]
        rotate_left
        rw[aA 8 70 rfl rfl];have c1:=(bZ.o w' hb.o).cell 1 _ rfl
        rotate_left
        rw[cG]
        rotate_left
        rw[cZ]
        rotate_left
        rw[aA 10 72 rfl rfl,aA 11 73 rfl rfl];have ii:=mH.o
        rotate_left
        rw[aA 12 74 rfl rfl];have p0:=kQ.o w' hb.o
        rotate_left
        rw[aA 9 71 rfl rfl,aA 13 75 rfl rfl];have kk:=wB.o
        rotate_left
        rw[aA 14 76 rfl rfl];obtain⟨p0,p1,p2⟩:=qK.o w' hb.o
        rotate_left
        rw[nQ]
        rotate_left
        ·have jK:=aA 15 77 rfl rfl
         have jL:=aA 16 78 rfl rfl;clear aA;rw[jK,jL];clear jK jL cG eC cD cZ nQ;refine aP rfl ?_
         go_wp2_with fail
         refine(dM.o w' hb.o).mono ?_;rintro e w4 ⟨rfl,b4⟩;have bC:=I b4;clear b4
         go_wp2_with fail
         exact aI ⟨_,rfl,bC.o,rfl⟩
        rw[aA 7 69 rfl rfl,aA 17 79 rfl rfl];have aE:=Rt.o
        rotate_left
        all_goals clear aA cG eC cD cZ nQ
        all_goals (refine aP rfl ?_;go_wp2_with fail;exact aI ⟨_,rfl,aG _ _,rfl⟩)
       case he =>
        intro listed a' w4 H aD;have vK:=H.done 18 _ 80 rfl (aD 18 (by decide)) rfl;have aK:=I H.below;obtain⟨zf,hz,rfl⟩:=H.actz [62,63,64,65,66,67,68,69,70,71,72,73,74,75,76,77,78,79,80] (oL (by kernel_rfl));rw[hz] at vK;clear H aD hz;simp only[fcL,fnL,Act.put,sbT,scS,scZ];rw[show zf 80=_ from vK];clear vK;have B8:=BR.tr aK.o;have X8:=I (bZ.o _ aK.o);have S8:=I (mY.o _ aK.o);clear aK BR XR SR kQ bZ mY qL dM qK;have Jv:=I (Pd (f:=Hy c l n) rU.o (by rw[tQ.o];exact decide_eq_true aE) HA.o)
        go_wp2_with fail
        go_roundw
        case rel=>exact⟨ix+1,by go_num,by omega,Jv,B8,X8,S8⟩
        case measure=>simp only[intOf];omega
      ·have Rt:Hid (tk<(n0:Int)):=I (by omega)
       refine oK (lF (ZZ w.heap.size iU gq oq gm om ix k n lc wd n0 qn qc mn mc n uc nb bc nt tc qo (some ⟨gm,om,none⟩) (some ⟨gu,ou,none⟩) bo to' mr tk true)) (by kernel_rfl) (fun _ _ _ _ h _=>h) (jD (by kernel_rfl)) (oJ (by kernel_rfl)) (iV (by kernel_rfl)) ?hs ?he
       case hs =>
        intro i o hi listed a' w' H aU;have hb:=I H.below;obtain⟨t',df⟩:=a';obtain⟨f',rfl,hf⟩:=qe t' H.tsize;obtain rfl:df=[]:=H.defers;have cG:f' 1 = .slice (some ⟨gq,oq,none⟩) n lc:=H.sm 1 (by kernel_rfl);have eC:f' 2 = .pointer (some ⟨w.heap.size,0,none⟩):=H.sm 2 (by kernel_rfl);have cD:f' 5 = .pointer (some ⟨iU,0,none⟩):=H.sm 5 (by kernel_rfl);have cZ:f' 7 = .int .i64 (ix:Nat):=H.sm 7 (by kernel_rfl);have nQ:f' 8 = .int .i64 (wd:Nat):=H.sm 8 (by kernel_rfl);have aA:=H.hL aU hf;clear aU H hf;rcases ZY i (lI.1 hi).1 with rfl | rfl | rfl | rfl | rfl | rfl | rfl | rfl | rfl | rfl | rfl | rfl | rfl | rfl | rfl | rfl | rfl | rfl | rfl<;>obtain rfl:=bF hi;rw[cD];have hx:=mY.o w' hb.o;obtain⟨c0,c1,c2,c3⟩:=hx.c4;clear hx
        rotate_left
        rw[cG]
        rotate_left
        rw[cG]
        rotate_left
        rw[cZ]
        rotate_left
        rw[aA 2 64 rfl rfl,aA 3 65 rfl rfl];have ii:=mH.o
        rotate_left
        rw[aA 4 66 rfl rfl];have p0:=kQ.o w' hb.o
        rotate_left
        rw[nQ]
        rotate_left
        ·have fT:=aA 0 62 rfl rfl
         have fY:=aA 1 63 rfl rfl;have dR:=aA 5 67 rfl rfl;have iL:=aA 6 68 rfl rfl;clear aA;rw[fT,fY,dR,iL];clear fT fY dR iL cG eC cD cZ nQ;refine aP rfl ?_
         go_wp2_with fail
         refine(qL.o w' hb.o).mono ?_;rintro e w4 ⟨rfl,b4⟩;have bC:=I b4;clear b4
         go_wp2_with fail
         exact aI ⟨_,rfl,bC.o,rfl⟩
        rw[eC]
        rotate_left
        rw[aA 8 70 rfl rfl];have c1:=(bZ.o w' hb.o).cell 1 _ rfl
        rotate_left
        rw[cG]
        rotate_left
        rw[cZ]
        rotate_left
        rw[aA 10 72 rfl rfl,aA 11 73 rfl rfl];have ii:=mH.o
        rotate_left
        rw[aA 12 74 rfl rfl];have p0:=kQ.o w' hb.o
        rotate_left
        rw[aA 9 71 rfl rfl,aA 13 75 rfl rfl];have kk:=wB.o
        rotate_left
        rw[aA 14 76 rfl rfl];obtain⟨p0,p1,p2⟩:=qK.o w' hb.o
        rotate_left
        rw[nQ]
        rotate_left
        ·have jK:=aA 15 77 rfl rfl
         have jL:=aA 16 78 rfl rfl;clear aA;rw[jK,jL];clear jK jL cG eC cD cZ nQ;refine aP rfl ?_
         go_wp2_with fail
         refine(dM.o w' hb.o).mono ?_;rintro e w4 ⟨rfl,b4⟩;have bC:=I b4;clear b4
         go_wp2_with fail
         exact aI ⟨_,rfl,bC.o,rfl⟩
        rw[aA 7 69 rfl rfl,aA 17 79 rfl rfl];have aE:=Rt.o
        rotate_left
        all_goals clear aA cG eC cD cZ nQ
        all_goals (refine aP rfl ?_;go_wp2_with fail;exact aI ⟨_,rfl,aG _ _,rfl⟩)
       case he =>
        intro listed a' w4 H aD;have vK:=H.done 18 _ 80 rfl (aD 18 (by decide)) rfl;have aK:=I H.below;obtain⟨zf,hz,rfl⟩:=H.actz [62,63,64,65,66,67,68,69,70,71,72,73,74,75,76,77,78,79,80] (oL (by kernel_rfl));rw[hz] at vK;clear H aD hz;simp only[fcL,fnL,Act.put,sbT,scS,scZ];rw[show zf 80=_ from vK];clear vK;have B8:=BR.tr aK.o;have X8:=I (bZ.o _ aK.o);have S8:=I (mY.o _ aK.o);clear aK BR XR SR kQ bZ mY qL dM qK;have HE:Hid (cX=false):=I (by rw[Ra.o,xD rU.o (f:=Hy c l n) (by rw[tQ.o];exact decide_eq_false aE)])
        go_wp2_with fail
        go_ret;exact⟨aF HE.o.symm,B8.o⟩
     ·have ii:¬ (ix:Int)<n:=by omega
      have HE:Hid (cX=true):=I (by rw[Ra.o,Tm (f:=Hy c l n) (by rw[List.length_range];omega) HA.o])
      go_wp2_with fail
      go_ret;exact⟨aF HE.o.symm,BR.o⟩
 ·have q0:(((n:Nat):Int) != ((un:Nat):Int))=true:=bne_iff_ne.2 (by omega)
  have HE:Hid (cX=false):=I (by rw[nY.o,decide_eq_false dH];rfl)
  go_wp2_with fail
  go_ret;exact⟨by rw[HE.o];rfl,B2.o⟩
end
section
open Go.RowKit Go.Sort Go.Maps
def GF(TB gq oq ix k n lc qn d1 mn d2 un d3 cc:Nat)(q2 q3 q4 co:Option Addr)(D:Nat->Prop)(CF:List (List Bool))(i:Nat)(W:World)(v:Value):Prop:=match i with
 | 0=>v = .agg #[.slice q2 qn d1,.slice q3 mn d2,.slice q4 un d3,.slice co un cc]
 | 1=>v = .int .i64 (ix:Nat)
 | 2=>v = .slice (some ⟨gq,oq,none⟩) n lc
 | 3=>v = .int .i64 (ix:Nat)
 | 4=>v = .pointer (some ⟨gq,oq+ix,none⟩)
 | 5=>v = .int .i64 (k:Nat)
 | 6=>∃ co' cc',v = .agg #[.slice q2 qn d1,.slice q3 mn d2,.slice q4 un d3,.slice co' un cc']/\kV W D CF co'
 | _=>True
theorem Zqw(TB gq oq ix k n lc qn d1 mn d2 un d3 cc:Nat)(q2 q3 q4 co:Option Addr)(D:Nat->Prop)(CF:List (List Bool)):∀ i w w' v,GF TB gq oq ix k n lc qn d1 mn d2 un d3 cc q2 q3 q4 co D CF i w v->Below w.heap.size w w'->GF TB gq oq ix k n lc qn d1 mn d2 un d3 cc q2 q3 q4 co D CF i w' v:=by
 intro i w w' v h hb
 match i with
 | 0=>exact h
 | 1=>exact h
 | 2=>exact h
 | 3=>exact h
 | 4=>exact h
 | 5=>exact h
 | 6=>obtain⟨co',cc',h1,h2⟩:=h;exact⟨co',cc',h1,h2.only (Only.of_below hb (p:=fun _=>False)) (fun g _ e=>e.elim) (fun g _ e=>e)⟩
 | k+7=>trivial
theorem Zqx(w:World)(c:Crw)(cs:List Value)(l:List Int)(lo:Option Addr)(lc:Nat)(ha:ArgR w c cs)(hl:aY aZ w lo l)(fX:l.length<=1000000) :
  Calls Tryz.prog 53 #[.agg cs.toArray,.slice lo l.length lc] w fun e w'=>Li w w' c l e:=by
 have gV:=ha.nu;have qZ:=ha.ok.nm;have lD:=I (fun W (hW:Below w.heap.size w W)=>Wm W c cs (ha.below hW));have cU:=I (fun(h:bG c=true)=>qP h (by omega))
 have pI:Hid (∀ W,Below w.heap.size w W->bG c=true->Calls Tryz.prog 112 #[.agg cs.toArray] W fun e w'=>(∃ (q2:Option Addr) (d1:Nat) (q3:Option Addr) (d2:Nat) (q4:Option Addr) (d3:Nat) (co:Option Addr) (cc:Nat),e = .returned (.agg #[.slice q2 c.qs.length d1,.slice q3 c.ms.length d2,.slice q4 c.us.length d3,.slice co c.us.length cc])/\(tK w' (fun _=>True) c.qs q2/\uA w' c.ms q3/\aY cQ w' q4 c.us)/\lY w' (aW c) co)/\Below W.heap.size W w'):=I (fun W hW hv=>by
  refine(fl W c cs (ha.below hW) hv).mono ?_;rintro e w' ⟨⟨ts,rfl,q2,d1,q3,d2,q4,d3,co,cc,rfl,h1,h2,h3,h4⟩,hb⟩;rw[(cU.o hv).len]
  exact⟨⟨q2,d1,q3,d2,q4,d3,co,cc,rfl,⟨h1,h2,h3⟩,h4⟩,hb⟩)
 have jH:Hid (∀ (q2:Option Addr) (d1:Nat) (q3:Option Addr) (d2:Nat) (q4:Option Addr) (d3:Nat) (co:Option Addr) (cc:Nat) (D:Nat->Prop) (C':List (List Bool)) (u k:Nat) (W:World),(∀ g,D g->g<W.heap.size)->kV W D C' co->ReckOk c C'->u<c.us.length->k<c.ms.length->Calls Tryz.prog 115 #[.agg #[.slice q2 c.qs.length d1,.slice q3 c.ms.length d2,.slice q4 c.us.length d3,.slice co c.us.length cc],.int .i64 (u:Nat),.int .i64 (k:Nat)] W fun e w'=>(∃ co' cc',e = .returned (.agg #[.slice q2 c.qs.length d1,.slice q3 c.ms.length d2,.slice q4 c.us.length d3,.slice co' c.us.length cc'])/\kV w' D (bV c C' u k) co')/\Below W.heap.size W w'):=I (fun q2 d1 q3 d2 q4 d3 co cc D C' u k W hD hr h2 hu hk=>by
  have h:=qb W c C' q2 q3 q4 co d1 d2 d3 cc D hD hr h2.row (by rw[h2.len];omega) h2.nm u k (by rw[h2.len];exact hu) hk
  rwa [h2.len] at h)
 have rY:Hid (∀ (q2:Option Addr) (d1:Nat) (q3:Option Addr) (d2:Nat) (q4:Option Addr) (d3:Nat) (co:Option Addr) (cc:Nat) (C':List (List Bool)) (W:World),(tK W (fun _=>True) c.qs q2/\uA W c.ms q3/\aY cQ W q4 c.us)->lY W C' co->ReckOk c C'->Calls Tryz.prog 123 #[.agg #[.slice q2 c.qs.length d1,.slice q3 c.ms.length d2,.slice q4 c.us.length d3,.slice co c.us.length cc]] W fun e w'=>vS W c C' e w'):=I (fun q2 d1 q3 d2 q4 d3 co cc C' W hp hr h2=>ZW W c C' h2 [.slice q2 c.qs.length d1,.slice q3 c.ms.length d2,.slice q4 c.us.length d3,.slice co c.us.length cc] ⟨q2,d1,q3,d2,q4,d3,co,cc,by rw[h2.len],hp.1,hp.2.1,hp.2.2,hr⟩);have eZ:=I (fun q W=>yQ q (-1) ((c.ms.length:Int)-1) W);have vG:Hid (IntKind.i64.wrap ((c.ms.length:Int)-1)=(c.ms.length:Int)-1):=I (fU _ (by omega));have Mk:Hid (Bf c l=if (bG c&&decide (l.length=c.us.length))=true then tN c 0 l (aW c) else none):=I rfl;have Vj:Hid (∀ i q t C',tN c i (q::t) C'=if inB q (-1) ((c.ms.length:Int)-1)=true then tN c (i+1) t (if q = -1 then C' else bV c C' i q.toNat) else none):=I (fun i q t C'=>rfl)
 have n_:Hid (∀ q,inB q (-1) ((c.ms.length:Int)-1)=true->q ≠ -1->∃ k:Nat,q=(k:Int)/\k<c.ms.length):=I (fun q h hq=>by
  unfold inB at h;rw[dB,decide_eq_true_eq,decide_eq_true_eq] at h
  exact⟨q.toNat,by omega,by omega⟩)
 have fQ:=I (fun W (hW:Below w.heap.size w W)=>hl.below hW);obtain⟨qo,qc,mo,mc,uo,uc,rfl,-,-⟩:=Tl ha.crw;clear ha hl;obtain⟨Kl,Rz⟩:=exq (Bf c l);rw[Rz] at Mk;have nR:=I Rz;clear Rz;obtain⟨n,hn⟩:=exq (l.length);rw[hn] at fX Mk ⊢;have rD:=I hn;clear hn;generalize iM:bG c=vc at *;clear iM;have X1:=hnw w 26 [.slice qo c.qs.length qc,.slice mo c.ms.length mc,.slice uo c.us.length uc];have B1:=I (bwA w (.cells #[.slice qo c.qs.length qc,.slice mo c.ms.length mc,.slice uo c.us.length uc] 26));generalize c.qs.length=qn at *;generalize lG:c.ms.length=mn at *;generalize jQ:c.us.length=un at *;have fF:=I lG;have dZ:=I jQ;clear lG jQ
 go_enter Tryz.func53,Tryz.ntmps53
 go_upto_region 1 with(fail)
 generalize w.alloc (.cells #[.slice qo qn qc,.slice mo mn mc,.slice uo un uc] 26)=w1 at *
 go_wp2_with (refine wpList_load_row rfl 26 (.tmp 2) rfl (w.heap.size) ?x1 26 #[.slice qo qn qc,.slice mo mn mc,.slice uo un uc] (0,0) _ X1.o Tryz.underlying26 rfl (kU _ _ _) ?_;(case x1=>rfl))
 refine(lD.o w1 B1.o).mono ?_;rintro e w2 ⟨rfl,b2⟩;have X2:=X1.st b2;have B2:=B1.tr b2;clear b2 X1 B1 lD;have c2:=X2.o.cell 2 _ rfl
 cases vc with
 | false =>
  have HE:Hid (Kl=none):=I (by rw[Mk.o];rfl)
  go_wp2_with fail
  go_ret2
  refine⟨B2.o,?_⟩;rw[nR.o,HE.o];rfl
 | true =>
 by_cases dH:n=un
 ·subst dH
  have q0:(((n:Nat):Int) != ((n:Nat):Int))=false:=by simp
  have Xf:Hid (tN c 0 (l.drop 0) (aW c)=Kl):=I (by rw[Mk.o,List.drop_zero];simp);have rR:=I (pI.o w2 B2.o (by trivial));have cV:=I (cU.o (by trivial));clear Mk pI cU
  go_upto_region 3 with(fail)
  clear c2 q0
  go_wp2_with (refine wpList_load_row rfl 26 (.tmp 2) rfl (w.heap.size) ?x3 26 #[.slice qo qn qc,.slice mo mn mc,.slice uo n uc] (0,0) _ X2.o Tryz.underlying26 rfl (kU _ _ _) ?_;(case x3=>rfl))
  refine rR.o.mono ?_;rintro e w4 ⟨⟨q2,d1,q3,d2,q4,d3,co,cc,rfl,hp,hr⟩,b4⟩;have X4:=X2.st b4;have B4:=B2.tr b4;have xz:Hid (∀ W,Below w4.heap.size w4 W->tK W (fun _=>True) c.qs q2/\uA W c.ms q3/\aY cQ W q4 c.us):=I (fun W hW=>⟨hp.1.below hW,hp.2.1.below hW,hp.2.2.below hW⟩);have Vb:=I hr;have jH:=I (fun co cc D C' u k W hD hr h2 hu hk=>jH.o q2 d1 q3 d2 q4 d3 co cc D C' u k W hD hr h2 hu hk);have rY:=I (fun co cc C' W hp hr h2=>rY.o q2 d1 q3 d2 q4 d3 co cc C' W hp hr h2);clear b4 X2 B2 rR hp hr;have O1:=hnw w4 137 [.slice none 0 0,.slice none 0 0,.slice none 0 0,.slice none 0 0];have BO:=I (bwA w4 (.cells #[.slice none 0 0,.slice none 0 0,.slice none 0 0,.slice none 0 0] 137))
  go_upto_region 5 with(refine sG rfl 137 (.tmp 6) (.tmp 22) rfl w4.heap.size #[.slice q2 qn d1,.slice q3 mn d2,.slice q4 n d3,.slice co n cc] (by rfl) (by rfl) 137 _ O1.o (pD _ _ _ _) rfl (by simp[Value.oneCell']) ?_;intro w9 s9 u9;have S9:=I s9;have U9:=I u9;clear s9 u9)
  have A9:=I (U9.o.below BO.o (aO _));have S9:Hid (aC w9 w4.heap.size 137 [.slice q2 qn d1,.slice q3 mn d2,.slice q4 n d3,.slice co n cc]):=I S9.o;have X9:=X4.st A9.o;have B9:=B4.tr A9.o;have R9:Hid (kV w9 (· = w4.heap.size) (aW c) co):=I (kV.only (D:=(· = w4.heap.size)) (Vb.o.rowsD (fun g hg=>by omega)) (Only.of_below A9.o (p:=fun _=>False)) (fun g _ e=>e.elim) (fun g _ e=>e));obtain⟨iU,hTBK⟩:=exq (w4.heap.size);rw[hTBK] at S9 R9 ⊢;have fA:=I hTBK;have qV:Hid (w.heap.size≠iU):=I (by have h:=X4.o.lt;omega);have Mt:Hid (w.heap.size<=iU):=I (by rw[<- hTBK];exact B4.o.size);clear O1 BO U9 X4 B4 Vb hTBK
  go_loopw [7] (fun iv wr=>∃ (i:Nat) (co:Option Addr) (cc:Nat) (C':List (List Bool)),iv = .int .i64 i/\i<=n/\Hid (tN c i (l.drop i) C'=Kl)/\Hid (ReckOk c C')/\Hid (kV wr (· = iU) C' co)/\Hid (Below w4.heap.size w4 wr)/\Hid (Below w.heap.size w wr)/\Hid (aC wr w.heap.size 26 [.slice qo qn qc,.slice mo mn mc,.slice uo n uc])/\Hid (aC wr iU 137 [.slice q2 qn d1,.slice q3 mn d2,.slice q4 n d3,.slice co n cc])) (fun i _=>(n-intOf i).toNat)
  case atStart=>exact⟨0,co,cc,aW c,rfl,by omega,Xf,cV,R9,A9,B9,X9,S9⟩
  case round =>
   clear B9 X9 S9 R9 A9 Xf cV;obtain⟨ix,co,cc,C',rfl,hi,HA,HK,RR,AR,BR,XR,SR⟩:=hrel;have e2:=w1i ix (by omega);by_cases aT:ix<n
   ·have ii:(ix:Int)<n:=by omega
    have mH:=I ii;obtain⟨q,hq⟩:∃ q,l[ix]?=some q:=⟨_,aL (by rw[rD.o];exact aT)⟩;have Nb:=I hq
    have jz:Hid (l.drop ix=q::l.drop (ix+1)):=I (by
     have vY:ix<l.length:=by rw[rD.o];exact aT
     rw[List.drop_eq_getElem_cons vY]
     congr 1
     exact(fD.1 hq).2)
    have vD:Hid (Kl=if inB q (-1) ((mn:Int)-1)=true then tN c (ix+1) (l.drop (ix+1)) (if q = -1 then C' else bV c C' ix q.toNat) else none):=I (by rw[<- HA.o,jz.o,Vj.o]);obtain⟨gq,oq,fI,pP,eK⟩:=(fQ.o wr BR.o).at jN ix q hq;have y0:=eK 0 _ rfl;rw[Nat.mul_one,Nat.add_zero] at y0;have kQ:=I (fun W (hW:Below wr.heap.size wr W)=>(hW.cell (p:=⟨gq,oq+ix,none⟩) pP).trans y0);have bZ:=I (fun W (hW:Below wr.heap.size wr W)=>XR.o.step hW);have eZ:=I (fun W=>eZ.o q W);obtain⟨bb,dJ⟩:∃ b,inB q (-1) ((mn:Int)-1)=b:=⟨_,rfl⟩;rw[dJ] at eZ vD;have Hc:=I dJ;have Gd:=I fI;clear dJ hq eK y0 pP HA jz;subst fI
    go_upto_region 7 with(fail)
    refine oK (lF (GE w.heap.size 1 gq oq ix n lc mn mc mo q bb)) (by kernel_rfl) (fun _ _ _ _ h _=>h) (jD (by kernel_rfl)) (oJ (by kernel_rfl)) (iV (by kernel_rfl)) ?hs ?he
    case hs =>
     intro i o hi listed a' w' H aU;have hb:=I H.below;obtain⟨t',df⟩:=a';obtain⟨f',rfl,hf⟩:=FY t' H.tsize;obtain rfl:df=[]:=H.defers;have cG:f' 1 = .slice (some ⟨gq,oq,none⟩) n lc:=H.sm 1 (by kernel_rfl);have eC:f' 2 = .pointer (some ⟨w.heap.size,0,none⟩):=H.sm 2 (by kernel_rfl);have cZ:f' 7 = .int .i64 (ix:Nat):=H.sm 7 (by kernel_rfl);have aA:=H.hL aU hf;clear aU H hf;rcases en i (lI.1 hi).1 with rfl | rfl | rfl | rfl | rfl | rfl | rfl | rfl | rfl | rfl<;>obtain rfl:=bF hi;rw[cG]
     rotate_left
     rw[cZ]
     rotate_left
     rw[aA 0 29 rfl rfl,aA 1 30 rfl rfl];have ii:=mH.o
     rotate_left
     rw[aA 2 31 rfl rfl];have p0:=kQ.o w' hb.o
     rotate_left
     rw[eC]
     rotate_left
     rw[aA 4 33 rfl rfl];have c0:=(bZ.o w' hb.o).cell 1 _ rfl
     rotate_left
     rw[aA 5 34 rfl rfl]
     rotate_left
     rw[aA 6 35 rfl rfl];have e1:=vG.o
     rotate_left
     ·have dC:=aA 3 32 rfl rfl
      have jA:=aA 7 36 rfl rfl;clear aA;rw[dC,jA];clear dC jA cG eC cZ;refine aP rfl ?_
      go_wp2_with fail
      refine(eZ.o w').mono ?_;rintro e w4 ⟨rfl,rfl⟩
      go_wp2_with fail
      exact aI ⟨_,rfl,aG _ _,rfl⟩
     rw[aA 8 37 rfl rfl]
     rotate_left
     all_goals clear aA cG eC cZ
     all_goals (refine aP rfl ?_;go_wp2_with fail;exact aI ⟨_,rfl,aG _ _,rfl⟩)
    case he =>
     intro listed a' w4_ H aD;have pJ:=H.done 9 _ 38 rfl (aD 9 (by decide)) rfl;have aK:=I H.below;obtain⟨zf,hz,rfl⟩:=H.actz [29,30,31,32,33,34,35,36,37,38] (oL (by kernel_rfl));rw[hz] at pJ;clear H aD hz;simp only[fcL,fnL,Act.put,sbT,scS,scZ];rw[show zf 38=_ from pJ];clear pJ;have A7:=AR.tr aK.o;have B7:=BR.tr aK.o;have X7:=I (bZ.o _ aK.o);have S7:=SR.st aK.o;have R7:Hid (kV w4_ (· = iU) C' co):=I (RR.o.only (Only.of_below aK.o (p:=fun _=>False)) (fun g _ e=>e.elim) (fun g _ e=>e));have p0:=kQ.o _ aK.o;clear aK BR XR SR RR AR bZ eZ
     cases bb with
     | false =>
      have HE:Hid (Kl=none):=I (by rw[vD.o];rfl)
      go_wp2_with fail
      go_ret2
      refine⟨B7.o,?_⟩;rw[nR.o,HE.o];rfl
     | true =>
      rw[if_pos rfl] at vD;by_cases kL:q = -1
      ·have q1:(q != -1)=false:=by simpa using kL
       have rX:Hid (tN c (ix+1) (l.drop (ix+1)) C'=Kl):=I (by rw[vD.o,if_pos kL])
       go_wp2_with fail
       clear p0;go_roundw
       case rel=>exact⟨ix+1,co,cc,C',by go_num,by omega,rX,HK,R7,A7,B7,X7,S7⟩
       case measure=>simp only[intOf];omega
      ·have q1:(q != -1)=true:=by simpa using kL
       obtain⟨k,hk,oR⟩:=n_.o q Hc.o kL;have rX:Hid (tN c (ix+1) (l.drop (ix+1)) (bV c C' ix k)=Kl):=I (by rw[vD.o,if_neg kL,hk,Int.toNat_natCast]);have Dt:Hid (iU<w4_.heap.size):=I S7.o.lt;have zE:=I (fun W (hW:Below w4_.heap.size w4_ W)=>jH.o co cc (· = iU) C' ix k W (fun g e=>by have:=Dt.o;have:=hW.size;omega) (R7.o.only (Only.of_below hW (p:=fun _=>False)) (fun g _ e=>e.elim) (fun g _ e=>e)) HK.o aT oR);have Kk:=I (HK.o.fix ix k);obtain⟨CF,hCF⟩:=exq (bV c C' ix k);rw[hCF] at zE Kk rX;clear hCF
       go_upto_region 10 with(fail)
       clear p0 q1;obtain⟨g3,o3,xS,uX,qE⟩:=(fQ.o w4_ B7.o).at jN ix q Nb.o;cases xS;have y0:=qE 0 _ rfl;rw[Nat.mul_one,Nat.add_zero,hk] at y0;have OS:=I (fun W (hW:Below w4_.heap.size w4_ W)=>(hW.cell (p:=⟨gq,oq+ix,none⟩) uX).trans y0);have mY:=I (fun W (hW:Below w4_.heap.size w4_ W)=>S7.o.step hW);clear qE y0 uX kQ;refine Ff 7 0 (GF iU gq oq ix k n lc qn d1 mn d2 n d3 cc q2 q3 q4 co (· = iU) CF) (by kernel_rfl) rfl (Zqw iU gq oq ix k n lc qn d1 mn d2 n d3 cc q2 q3 q4 co (· = iU) CF) (jD (by kernel_rfl)) (Fe (by kernel_rfl)) (iV (by kernel_rfl)) (Fg (by kernel_rfl)) ?hs ?he
       case hs =>
        intro i o aT hi listed a' w' H bA aU;have hb:=I H.below;obtain⟨t',df⟩:=a';obtain⟨f',rfl,-⟩:=FY t' H.tsize;obtain rfl:df=[]:=H.defers;have cG:f' 1 = .slice (some ⟨gq,oq,none⟩) n lc:=bA 1 (gK (by kernel_rfl));have dP:f' 6 = .pointer (some ⟨iU,0,none⟩):=bA 6 (gK (by kernel_rfl));have cZ:f' 7 = .int .i64 (ix:Nat):=bA 7 (gK (by kernel_rfl));have aA:=H.hC aU;clear aU H bA;have bP:i=0\/i=1\/i=2\/i=3\/i=4\/i=5\/i=6:=Zwd i aT;clear aT;rcases bP with rfl | rfl | rfl | rfl | rfl | rfl | rfl<;>obtain rfl:=bF hi;rw[dP];have hx:=mY.o w' hb.o;obtain⟨c0,c1,c2,c3⟩:=hx.c4;clear hx
        rotate_left
        rw[cZ]
        rotate_left
        rw[cG]
        rotate_left
        rw[cZ]
        rotate_left
        rw[show f' 46=_ from aA 2 46 rfl,show f' 47=_ from aA 3 47 rfl];have ii:=mH.o
        rotate_left
        rw[show f' 48=_ from aA 4 48 rfl];have p0:=OS.o w' hb.o
        rotate_left
        ·have fT:f' 44=_:=aA 0 44 rfl
         have fY:f' 45=_:=aA 1 45 rfl;have dR:f' 49=_:=aA 5 49 rfl;clear aA;rw[fT,fY,dR];clear fT fY dR cG dP cZ;have td:=I (zE.o w' hb.o);refine aP rfl ?_
         go_wp2_with fail
         refine td.o.mono ?_;rintro e w4 ⟨⟨co',cc',rfl,hr⟩,b4⟩;have bC:=I b4;have Vb:=I hr;clear b4 hr
         go_wp2_with fail
         exact aI ⟨_,rfl,bC.o,co',cc',rfl,Vb.o⟩
        all_goals clear aA cG dP cZ
        all_goals (refine aP rfl ?_;go_wp2_with fail;exact aI ⟨_,rfl,aG _ _,rfl⟩)
       case he =>
        intro listed a' w5 H bA aD;have OT:=H.done 6 _ 50 rfl (aD 6 (by decide)) rfl;have aK:=I H.below;obtain⟨zf,hz,rfl⟩:=H.actNz bA [44,45,46,47,48,49,50] (Fh (by kernel_rfl));rw[hz] at OT;clear H aD bA hz;simp only[fcL,fnL,Act.put,sbT,scS,scZ];obtain⟨co',cc',e6,hRD⟩:=OT;rw[e6];clear e6;have mB:=I hRD;have S8:=S7.st aK.o;have X8:=X7.st aK.o;have B8:=B7.tr aK.o;have A8:=A7.tr aK.o;clear aK hRD S7 X7 B7 A7 R7 OS mY zE;refine nE (aP rfl ?_);refine sG rfl 137 (.tmp 6) (.tmp 50) rfl iU #[.slice q2 qn d1,.slice q3 mn d2,.slice q4 n d3,.slice co' n cc'] ?s1 ?s2 137 _ S8.o (pD _ _ _ _) rfl (by simp[Value.oneCell']) ?_
        case s1=>rfl
        case s2=>rfl
        intro OU s9 u9;have S9:Hid (aC OU iU 137 [.slice q2 qn d1,.slice q3 mn d2,.slice q4 n d3,.slice co' n cc']):=I s9;have X9:=I (X8.o.upd u9 qV.o);have A9:=I (u9.below A8.o (by rw[fA.o];exact aO _));have B9:=I (u9.below B8.o Mt.o);have R9:Hid (kV OU (· = iU) CF co'):=I (mB.o.only (u9.only (p:=(· = iU)) rfl) (fun g _ e=>e) (fun g _ e=>e));clear s9 u9 S8 X8 A8 B8 mB
        go_wp2_with fail
        refine aI (vM ?_)
        go_wp2_with fail
        go_roundw
        case rel=>exact⟨ix+1,co',cc',CF,by go_num,by omega,rX,Kk,R9,A9,B9,X9,S9⟩
        case measure=>simp only[intOf];omega
   ·have ii:¬ (ix:Int)<n:=by omega
    have HE:Hid (Kl=some C'):=I (by rw[<- HA.o,List.drop_of_length_le (by rw[rD.o];omega)];rfl);have Dq:=I (rY.o co cc C' wr (xz.o wr AR.o) RR.o.rowsB HK.o);unfold vS at Dq;rw[dZ.o] at Dq;obtain⟨fk,lZ⟩:=exq (gD (aR c C'));rw[lZ] at Dq;have zJ:=I lZ;clear lZ
    go_upto_region 11 with(fail)
    go_wp2_with (refine wpList_load_row rfl 137 (.tmp 6) rfl (iU) ?xt 137 #[.slice q2 qn d1,.slice q3 mn d2,.slice q4 n d3,.slice co n cc] (0,0) _ SR.o Tryz.underlying137 rfl (pD _ _ _ _) ?_;(case xt=>rfl))
    refine Dq.o.mono ?_;rintro e w5 ⟨b5,hq⟩;have B5:=BR.tr b5
    cases fk with
    | false =>
     rw[if_neg (by decide)] at hq;subst hq;clear b5
     go_wp2_with fail
     go_ret2
     refine⟨B5.o,?_⟩;rw[nR.o,HE.o]
     show if gD (aR c C')=true then _ else _
     rw[zJ.o,if_neg (by decide)];rfl
    | true =>
     rw[if_pos rfl] at hq;obtain⟨o,cap,rfl,ho⟩:=hq;have O5:=I (ho.lower BR.o.size);clear b5 ho
     go_wp2_with fail
     go_ret2
     refine⟨B5.o,?_⟩;rw[nR.o,HE.o]
     show if gD (aR c C')=true then _ else _
     rw[zJ.o,if_pos rfl,dZ.o];exact⟨o,cap,rfl,O5.o⟩
 ·have q0:(((n:Nat):Int) != ((un:Nat):Int))=true:=bne_iff_ne.2 (by omega)
  have HE:Hid (Kl=none):=I (by rw[Mk.o,decide_eq_false dH];rfl)
  go_wp2_with fail
  go_ret2
  refine⟨B2.o,?_⟩;rw[nR.o,HE.o];rfl
end
end Go.Proofs.YtbcgocpihobjnaaGreatDoor
