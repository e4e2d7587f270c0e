import Derived.SevenTiedAt
import Derived.SizedLaws
import Derived.Test.YtbcgocpihobjnaaGreatDoorCL41
import Derived.Test.YtbcgocpihobjnaaGreatDoorCL42
import Derived.Test.YtbcgocpihobjnaaGreatDoorCL30
import Derived.Test.YtbcgocpihobjnaaGreatDoorCL11
import Derived.Test.YtbcgocpihobjnaaGreatDoorCL40
import Derived.Test.YtbcgocpihobjnaaGreatDoorCL35
import Derived.Test.YtbcgocpihobjnaaGreatDoorCL36
import Derived.Test.YtbcgocpihobjnaaGreatDoorCL33
set_option linter.all false
set_option maxHeartbeats 32000000
set_option maxRecDepth 100000
namespace Go.Proofs.YtbcgocpihobjnaaGreatDoor
section
open Go.RowKit Go.Sort Go.Maps
theorem yQ(n lo hi:Int)(w:World):Calls Tryz.prog 122 #[.int .i64 n,.int .i64 lo,.int .i64 hi] w fun e w'=>e = .returned (.bool (inB n lo hi))/\w=w':=by
 unfold inB
 go_enter Tryz.func122,Tryz.ntmps122
 by_cases h1:lo<=n
 ·by_cases h2:n<=hi
  ·go_wp2
   go_ret;exact⟨aF (by simp[h1,h2]),rfl⟩
  ·go_wp2
   go_ret;exact⟨aF (by simp[show ¬ n<=hi by omega]),rfl⟩
 ·go_wp2
  go_ret;exact⟨aF (by simp[show ¬ lo<=n by omega]),rfl⟩
theorem ZM(w:World)(qo mo uo:Option Addr)(nq nm nu qc mc uc:Nat)(x:Use)(h1:nq<=1000000000)(h2:nm<=1000000000) :
  Calls Tryz.prog 126 #[.agg #[.slice qo nq qc,.slice mo nm mc,.slice uo nu uc],.agg (cQ x).toArray] w fun e w'=>e = .returned (.bool (nG nq nm x))/\Below w.heap.size w w':=by
 unfold nG cQ;generalize x.q=x0 at *;generalize x.w=x1 at *;generalize x.f=x2 at *;generalize x.h=x3 at *;have H1:=I (fun W=>yQ x0 0 ((nq:Int)-1) W);have H2:=I (fun W=>yQ x1 0 15 W);have H3:=I (fun W=>yQ x2 0 16 W);have H4:=I (fun W=>yQ x3 (-1) ((nm:Int)-1) W);generalize inB x0 0 ((nq:Int)-1)=b1 at *;generalize inB x1 0 15=b2 at *;generalize inB x2 0 16=b3 at *;generalize inB x3 (-1) ((nm:Int)-1)=b4 at *;have bx:=(bwA w (.cells #[.slice qo nq qc,.slice mo nm mc,.slice uo nu uc] 26)).alloc (by simp) (.cells #[.int .i64 x0,.int .i64 x1,.int .i64 x2,.int .i64 x3] 39);have B1:=I bx;have C1:Hid (aC ((w.alloc (.cells #[.slice qo nq qc,.slice mo nm mc,.slice uo nu uc] 26)).alloc (.cells #[.int .i64 x0,.int .i64 x1,.int .i64 x2,.int .i64 x3] 39)) w.heap.size 26 [.slice qo nq qc,.slice mo nm mc,.slice uo nu uc]):=I (lr _ _ _);have X1:Hid (aC ((w.alloc (.cells #[.slice qo nq qc,.slice mo nm mc,.slice uo nu uc] 26)).alloc (.cells #[.int .i64 x0,.int .i64 x1,.int .i64 x2,.int .i64 x3] 39)) (w.heap.size+1) 39 [.int .i64 x0,.int .i64 x1,.int .i64 x2,.int .i64 x3]):=I (heap_alloc2_new _ _ _);clear bx;have e1:IntKind.i64.wrap ((nq:Int)-1)=(nq:Int)-1:=fU _ (by omega);have e2:IntKind.i64.wrap ((nm:Int)-1)=(nm:Int)-1:=fU _ (by omega)
 go_enter Tryz.func126,Tryz.ntmps126
 go_upto_region 1 with(fail)
 generalize hw:(w.alloc (.cells #[.slice qo nq qc,.slice mo nm mc,.slice uo nu uc] 26)).alloc (.cells #[.int .i64 x0,.int .i64 x1,.int .i64 x2,.int .i64 x3] 39)=w1 at *;clear hw;have c0:=C1.o.cell 0 _ rfl;have c1:=C1.o.cell 1 _ rfl;obtain⟨y0,y1,y2,y3⟩:=X1.o.c4
 go_wp2_with fail
 refine(H1.o w1).mono ?_;rintro e wa ⟨rfl,rfl⟩
 cases b1 with
 | false =>
  go_wp2_with fail
  go_ret;exact⟨aF (by simp),B1.o⟩
 | true =>
  go_wp2_with fail
  refine(H2.o w1).mono ?_;rintro e wa ⟨rfl,rfl⟩
  cases b2 with
  | false =>
   go_wp2_with fail
   go_ret;exact⟨aF (by simp),B1.o⟩
  | true =>
   go_wp2_with fail
   refine(H3.o w1).mono ?_;rintro e wa ⟨rfl,rfl⟩
   cases b3 with
   | false =>
    go_wp2_with fail
    go_ret;exact⟨aF (by simp),B1.o⟩
   | true =>
    go_wp2_with fail
    refine(H4.o w1).mono ?_;rintro e wa ⟨rfl,rfl⟩
    go_wp2_with fail
    go_ret;exact⟨aF (by simp),B1.o⟩
theorem Z4p(t:Array Value)(h:t.size=95):∃ f:Nat->Value,t=#[f 0,f 1,f 2,f 3,f 4,f 5,f 6,f 7,f 8,f 9,f 10,f 11,f 12,f 13,f 14,f 15,f 16,f 17,f 18,f 19,f 20,f 21,f 22,f 23,f 24,f 25,f 26,f 27,f 28,f 29,f 30,f 31,f 32,f 33,f 34,f 35,f 36,f 37,f 38,f 39,f 40,f 41,f 42,f 43,f 44,f 45,f 46,f 47,f 48,f 49,f 50,f 51,f 52,f 53,f 54,f 55,f 56,f 57,f 58,f 59,f 60,f 61,f 62,f 63,f 64,f 65,f 66,f 67,f 68,f 69,f 70,f 71,f 72,f 73,f 74,f 75,f 76,f 77,f 78,f 79,f 80,f 81,f 82,f 83,f 84,f 85,f 86,f 87,f 88,f 89,f 90,f 91,f 92,f 93,f 94]/\∀ d,t.getD d undef=f d:=by
 obtain⟨l⟩:=t;have hl:l.length=95:=h
 have e:l=(List.range 95).map (fun i=>l.getD i undef):=by
  apply List.ext_getElem
  ·simp[hl]
  ·intro i h1 h2
   simp[List.getD,h1]
 exact⟨fun i=>l.getD i undef,congrArg List.toArray e,fun d=>by simp⟩
def Z5n(CB gu ou ix un uc qn qc mn mc:Nat)(qo mo:Option Addr)(y0 y1 y2 y3:Int)(bb:Bool):List Value:=[.agg #[.slice qo qn qc,.slice mo mn mc,.slice (some ⟨gu,ou,none⟩) un uc],.pointer (some ⟨CB,2,none⟩),.slice (some ⟨gu,ou,none⟩) un uc,.int .i64 (ix:Nat),.pointer (some ⟨gu,ou+ix*4,none⟩),.agg #[.int .i64 y0,.int .i64 y1,.int .i64 y2,.int .i64 y3],.bool bb,.bool (!bb)]
structure ArgR (w:World) (c:Crw) (cs:List Value):Prop where
 crw:mO w c cs
 ok:CrwOk c
 len:∀ p∈c.qs,vO p
 nu:c.us.length<=999
 bl:∀ m∈c.ms,m.b.length<=1000/\m.t.length<=1000
theorem ArgR.below{w w':World}{c:Crw}{cs:List Value}(h:ArgR w c cs)(hb:Below w.heap.size w w'):ArgR w' c cs:=⟨h.crw.below hb,h.ok,h.len,h.nu,h.bl⟩
theorem Zuf(c:Crw):bG c=(decide (c.qs.length<=128)&&decide (c.ms.length<=64)&&decide (c.us.length<=4096)&&(c.qs.all jV&&c.ms.all vR&&c.us.all (nG c.qs.length c.ms.length))):=by
 have h:∀ {α:Type} (l:List α) (f:α->Bool),(!l.any (fun x=>!f x))=l.all f:=fun l f=>by
  induction l with
  | nil=>rfl
  | cons x l ih=>simp only[List.any_cons,List.all_cons,<- ih];cases f x<;>simp
 unfold bG;rw[h,h,h];simp only[Bool.and_assoc]
theorem Zug(m:Mem):vR m=(vbP m.b&&decide (m.t.length<=16)&&inB m.r (-1) 16&&m.t.all (fun t=>inB t 0 4096)):=by
 have h:(!m.t.any Ld)=m.t.all (fun t=>inB t 0 4096):=by
  unfold Ld;generalize m.t=l
  induction l with
  | nil=>rfl
  | cons x l ih=>simp only[List.any_cons,List.all_cons,<- ih];cases inB x 0 4096<;>simp
 unfold vR;rw[h];cases vbP m.b<;>cases decide (m.t.length<=16)<;>cases inB m.r (-1) 16<;>cases m.t.all (fun t=>inB t 0 4096)<;>rfl
theorem Pd{α:Type}{l:List α}{f:α->Bool}{i:Nat}{x:α}(h:l[i]?=some x)(hf:f x=true)(ha:∀ y∈l.take i,f y=true):∀ y∈l.take (i+1),f y=true:=by
 intro y hy;rw[lN,h] at hy;rcases kI.1 hy with hy | hy
 ·exact ha y hy
 ·simp only[Option.toList_some,List.mem_singleton] at hy;rw[hy];exact hf
theorem xD{α:Type}{l:List α}{f:α->Bool}{i:Nat}{x:α}(h:l[i]?=some x)(hf:f x=false):l.all f=false:=by
 rw[List.all_eq_false];exact⟨x,bU h,by rw[hf];simp⟩
theorem Tm{α:Type}{l:List α}{f:α->Bool}{n:Nat}(hn:l.length<=n)(ha:∀ y∈l.take n,f y=true):l.all f=true:=by
 rw[List.all_eq_true];intro y hy;exact ha y (by rw[List.take_of_length_le hn];exact hy)
theorem Wm(w:World)(c:Crw)(cs:List Value)(ha:ArgR w c cs) :
  Calls Tryz.prog 55 #[.agg cs.toArray] w fun e w'=>e = .returned (.bool (bG c))/\Below w.heap.size w w':=by
 obtain⟨V,hV⟩:=exq (bG c);have HV:Hid (V=_):=I (hV.symm.trans (Zuf c));rw[hV];obtain⟨qo,qc,mo,mc,uo,uc,rfl,dL,cN,dN,-⟩:=ha.crw;have Uv:=I (fun W (hW:Below w.heap.size w W)=>dL.below hW);have nA:=I (fun W (hW:Below w.heap.size w W)=>cN.below hW);have jJ:=I (fun W (hW:Below w.heap.size w W)=>dN.below hW);have Nb:=I ha.len;have NN:=I ha.ok.q;have ua:=I ha.ok.m;have Xq:=ha.ok.nq;have Dr:=ha.ok.nm;have gV:=ha.nu;clear hV dL cN dN ha;generalize eW:c.qs.length=qn at *;generalize cY:c.ms.length=mn at *;generalize dH:c.us.length=un at *;generalize c.qs=qs at *;generalize c.ms=ms at *;generalize c.us=us at *;have wN:=I eW;have fF:=I cY;have dZ:=I dH;clear eW cY dH;have pL:=I (fun x W uo=>ZM W qo mo uo qn mn un qc mc uc x (by omega) (by omega));have X1:=hnw w 26 [.slice qo qn qc,.slice mo mn mc,.slice uo un uc];have B1:=I (bwA w (.cells #[.slice qo qn qc,.slice mo mn mc,.slice uo un uc] 26))
 go_enter Tryz.func55,Tryz.ntmps55
 go_upto_region 1 with(fail)
 generalize w.alloc (.cells #[.slice qo qn qc,.slice mo mn mc,.slice uo un uc] 26)=w1 at *;obtain⟨c0,c1,c2⟩:=X1.o.c3;by_cases h1:(128:Int)<(qn:Int)
 ·have HF:Hid (V=false):=I (by rw[HV.o,decide_eq_false (show ¬ qn<=128 by omega)];rfl)
  go_wp2_with fail
  go_ret;exact⟨aF HF.o.symm,B1.o⟩
 by_cases h2:(64:Int)<(mn:Int)
 ·have HF:Hid (V=false):=I (by rw[HV.o,decide_eq_false (show ¬ mn<=64 by omega),Bool.and_false];rfl)
  go_wp2_with fail
  go_ret;exact⟨aF HF.o.symm,B1.o⟩
 have h3:¬ (4096:Int)<(un:Int):=by omega
 have HV:Hid (V=(qs.all jV&&ms.all vR&&us.all (nG qn mn))):=I (by rw[HV.o,decide_eq_true (show qn<=128 by omega),decide_eq_true (show mn<=64 by omega),decide_eq_true (show un<=4096 by omega)];simp)
 go_wp2_with fail
 clear c0 c1 c2
 go_loopw [3] (fun cc wr=>∃ (i:Nat),cc = .int .i64 i/\i<=qn/\Hid (∀ q∈qs.take i,jV q=true)/\Hid (Below w.heap.size w wr)/\Hid (aC wr w.heap.size 26 [.slice qo qn qc,.slice mo mn mc,.slice uo un uc])) (fun c _=>(qn-intOf c).toNat)
 case atStart=>exact⟨0,rfl,by omega,I (by simp),B1,X1⟩
 case round =>
  clear B1 X1;obtain⟨i,rfl,hi,ha,hw,hx⟩:=hrel;have c0:=hx.o.cell 0 _ rfl;by_cases aE:i<qn
  ·have e2:=w1i i (by omega)
   have ii:(i:Int)<qn:=by omega
   obtain⟨q,hq⟩:∃ q,qs[i]?=some q:=⟨_,aL (by rw[wN.o];exact aE)⟩;obtain⟨g,off,vs,bI,dT,bH,aH⟩:=(Uv.o wr hw.o).at i q hq;obtain⟨xa,xn,xc,mS,-⟩:=bH.form;subst mS;have Gy:=I (Zqg q wr _ _ (NN.o q (bU hq)).2 (NN.o q (bU hq)).1 (Nb.o q (bU hq)) bH);have s0:=aH 0 _ rfl;have s1:=aH 1 _ rfl;have s2:=aH 2 _ rfl;have s3:=aH 3 _ rfl;have s4:=aH 4 _ rfl;rw[Nat.add_zero] at s0;have gZ:=I hq;clear hq bH aH dT;subst bI;obtain⟨sv,Ro⟩:=exq (jV q);rw[Ro] at Gy;have Gz:=I Ro;clear Ro;generalize q.k=q0 at *;generalize aB q.l=q1 at *;generalize aB q.r=q2 at *;generalize q.c=q3 at *
   go_wp2_with fail
   refine Gy.o.mono ?_;rintro e w3 ⟨rfl,b3⟩;have kA:=hw.tr b3;have xK:=I (hx.o.step b3);clear b3 s0 s1 s2 s3 s4 Gy hw hx c0
   cases sv with
   | false =>
    have HF:Hid (V=false):=I (by rw[HV.o,xD gZ.o Gz.o];rfl)
    go_wp2_with fail
    go_ret;exact⟨aF HF.o.symm,kA.o⟩
   | true =>
    have xZ:=I (Pd gZ.o Gz.o ha.o)
    go_wp2_with fail
    go_roundw
    case rel=>exact⟨i+1,by go_num,by omega,xZ,kA,xK⟩
    case measure=>simp only[intOf];omega
  ·have ii:¬ (i:Int)<qn:=by omega
   obtain rfl:qn=i:=by omega
   have HV:Hid (V=(ms.all vR&&us.all (nG qn mn))):=I (by rw[HV.o,Tm (by rw[wN.o];exact aO _) ha.o,cH]);clear ha
   go_wp2_with fail
   clear c0
   go_loopw [4] (fun cc wr=>∃ (j:Nat),cc = .int .i64 j/\j<=mn/\Hid (∀ m∈ms.take j,vR m=true)/\Hid (Below w.heap.size w wr)/\Hid (aC wr w.heap.size 26 [.slice qo qn qc,.slice mo mn mc,.slice uo un uc])) (fun c _=>(mn-intOf c).toNat)
   case atStart=>exact⟨0,rfl,by omega,I (by simp),hw,hx⟩
   case round =>
    clear hw hx;obtain⟨j,rfl,hj,ha,hw,hx⟩:=hrel;have c1:=hx.o.cell 1 _ rfl;by_cases aE:j<mn
    ·have e2:=w1i j (by omega)
     have ii:(j:Int)<mn:=by omega
     obtain⟨m,hm⟩:∃ m,ms[j]?=some m:=⟨_,aL (by rw[fF.o];exact aE)⟩;obtain⟨bi,qZ,uO⟩:=ua.o m (bU hm);obtain⟨g,off,vs,bI,dT,bH,aH⟩:=(nA.o wr hw.o).at j m hm;obtain⟨bo,bc,to',tc,rfl,Ck,Fw⟩:=bH;have s0:=aH 0 _ rfl;have s1:=aH 1 _ rfl;have s2:=aH 2 _ rfl;rw[Nat.add_zero] at s0;have Gv:=I hm;have rS:=I (fun W (hW:Below wr.heap.size wr W)=>Zor W _ m.b bo m.b.length bc rfl qZ bi (Ck.below hW));have Rj:=I (fun W (hW:Below wr.heap.size wr W)=>Fw.below hW);have tR:=I (Zug m);clear hm aH dT Ck Fw bi;subst bI;obtain⟨nb,Ma⟩:=exq (m.b.length);obtain⟨nt,Nc⟩:=exq (m.t.length);obtain⟨vb,Ua⟩:=exq (vbP m.b);rw[Ma] at s0 rS;rw[Ua] at rS tR;rw[Nc] at s1 tR uO;obtain⟨tl,yU⟩:=exq (m.t);rw[yU] at Rj tR Nc;obtain⟨mr,NO⟩:=exq (m.r);rw[NO] at s2 tR;have NP:=I Nc;have NQ:=I (fun W=>yQ mr (-1) 16 W);obtain⟨vr,Mn⟩:=exq (inB mr (-1) 16);rw[Mn] at NQ tR;obtain⟨vm,Jz⟩:=exq (vR m);have Qv:=I Jz;rw[Jz] at tR;clear Ma Nc Ua yU NO Mn Jz qZ;have O1:=hnw wr 44 [.slice none 0 0,.slice none 0 0,.int .i64 0];have BO:=I (bwA wr (.cells #[.slice none 0 0,.slice none 0 0,.int .i64 0] 44))
     go_upto_region 12 with(refine sG rfl 44 (.tmp 5) (.tmp 49) rfl wr.heap.size #[.slice bo nb bc,.slice to' nt tc,.int .i64 mr] (by rfl) (by rfl) 44 _ O1.o (ev _ _ _) rfl (by simp[Value.oneCell']) ?_;intro w9 s9 u9;have S9:=I s9;have U9:=I u9;clear s9 u9)
     have A9:=I (U9.o.below BO.o (aO _));have S9:Hid (aC w9 wr.heap.size 44 [.slice bo nb bc,.slice to' nt tc,.int .i64 mr]):=I S9.o;have X9:=I (hx.o.step A9.o);have L9:=hw.tr A9.o;clear O1 BO U9 s0 s1 s2 hw hx c1;have c0:=S9.o.cell 0 _ rfl
     go_wp2_with fail
     refine(rS.o w9 A9.o).mono ?_;rintro e wa ⟨rfl,ba⟩;have AA:=A9.tr ba;have SA:=S9.st ba;have XA:=X9.st ba;have LA:=L9.tr ba;clear ba c0 A9 S9 X9 L9 rS;have c1:=SA.o.cell 1 _ rfl;have c2:=SA.o.cell 2 _ rfl
     cases vb with
     | false =>
      have HF:Hid (V=false):=I (by rw[HV.o,xD Gv.o (by rw[Qv.o,tR.o];rfl)];rfl)
      go_wp2_with fail
      go_ret;exact⟨aF HF.o.symm,LA.o⟩
     | true =>
     by_cases gi:(16:Int)<(nt:Int)
     ·have HF:Hid (V=false):=I (by rw[HV.o,xD Gv.o (by rw[Qv.o,tR.o,decide_eq_false (show ¬ nt<=16 by omega)];rfl)];rfl)
      go_wp2_with fail
      go_ret;exact⟨aF HF.o.symm,LA.o⟩
     go_wp2_with fail
     refine(NQ.o wa).mono ?_;rintro e wb ⟨rfl,rfl⟩
     cases vr with
     | false =>
      have HF:Hid (V=false):=I (by rw[HV.o,xD Gv.o (by rw[Qv.o,tR.o,decide_eq_true (show nt<=16 by omega)];rfl)];rfl)
      go_wp2_with fail
      go_ret;exact⟨aF HF.o.symm,LA.o⟩
     | true =>
     have tR:Hid (vm=tl.all (fun t=>inB t 0 4096)):=I (by rw[tR.o,decide_eq_true (show nt<=16 by omega)];rfl)
     go_wp2_with fail
     clear c1 c2
     go_loopw [6] (fun cc wr'=>∃ (k:Nat),cc = .int .i64 k/\k<=nt/\Hid (∀ t∈tl.take k,inB t 0 4096=true)/\Hid (wr'=wa)) (fun c _=>(nt-intOf c).toNat)
     case atStart=>exact⟨0,rfl,by omega,I (by simp),I rfl⟩
     case round =>
      obtain⟨k,rfl,hk,NT,HW⟩:=hrel;have Z4:=HW.o;subst Z4;clear HW;have c1:=SA.o.cell 1 _ rfl;by_cases Z5:k<nt
      ·have e3:=w1i k (by omega)
       have kk:(k:Int)<nt:=by omega
       obtain⟨t,ht⟩:∃ t,tl[k]?=some t:=⟨_,aL (by rw[NP.o];exact Z5)⟩;obtain⟨g,off,bI,hg,hc⟩:=(Rj.o _ AA.o).at jN k t ht;have p0:=hc 0 _ rfl;rw[Nat.mul_one,Nat.add_zero] at p0;have wL:=I ht;clear ht hc hg;subst bI;have NU:=I (fun W=>yQ t 0 4096 W);obtain⟨tv,AM⟩:=exq (inB t 0 4096);have Yg:=I AM;rw[AM] at NU;clear AM
       go_wp2_with fail
       refine(NU.o _).mono ?_;rintro e wb ⟨rfl,rfl⟩
       cases tv with
       | false =>
        have HF:Hid (V=false):=I (by rw[HV.o,xD Gv.o (by rw[Qv.o,tR.o];exact xD wL.o Yg.o)];rfl)
        go_wp2_with fail
        go_ret;exact⟨aF HF.o.symm,LA.o⟩
       | true =>
        have pI:=I (Pd (f:=fun t=>inB t 0 4096) wL.o Yg.o NT.o)
        go_wp2_with fail
        go_roundw
        case rel=>exact⟨k+1,by go_num,by omega,pI,I trivial⟩
        case measure=>simp only[intOf];omega
      ·have kk:¬ (k:Int)<nt:=by omega
       have xZ:=I (Pd Gv.o (Qv.o.trans (tR.o.trans (Tm (f:=fun t=>inB t 0 4096) (n:=k) (by rw[NP.o];omega) NT.o))) ha.o)
       go_wp2_with fail
       go_roundw
       case rel=>exact⟨j+1,by go_num,by omega,xZ,LA,XA⟩
       case measure=>simp only[intOf];omega
    ·have ii:¬ (j:Int)<mn:=by omega
     obtain rfl:mn=j:=by omega
     have HV:Hid (V=us.all (nG qn mn)):=I (by rw[HV.o,Tm (by rw[fF.o];exact aO _) ha.o,cH]);clear ha
     go_wp2_with fail
     clear c1
     go_loopw [7] (fun cc wr=>∃ (ix:Nat),cc = .int .i64 ix/\ix<=un/\Hid (∀ m∈us.take ix,nG qn mn m=true)/\Hid (Below w.heap.size w wr)/\Hid (aC wr w.heap.size 26 [.slice qo qn qc,.slice mo mn mc,.slice uo un uc])) (fun c _=>(un-intOf c).toNat)
     case atStart=>exact⟨0,rfl,by omega,I (by simp),hw,hx⟩
     case round =>
      clear hw hx;obtain⟨ix,rfl,hj,ha,hw,hx⟩:=hrel;have c2:=hx.o.cell 2 _ rfl;by_cases aE:ix<un
      ·have e2:=w1i ix (by omega)
       have ii:(ix:Int)<un:=by omega
       have mH:=I ii;obtain⟨x,Rp⟩:∃ x,us[ix]?=some x:=⟨_,aL (by rw[dZ.o];exact aE)⟩;obtain⟨gu,ou,eV,hg,cF⟩:=(jJ.o wr hw.o).at mN ix x Rp;have NV:=I Rp;subst eV;have pL:=I (fun W=>pL.o x W (some ⟨gu,ou,none⟩));obtain⟨bb,iJ⟩:=exq (nG qn mn x);have uR:=I iJ;rw[iJ] at pL;unfold cQ at pL;have p0:wr.cell? ⟨gu,ou+ix*4,none⟩=some (.int .i64 x.q):=cF 0 _ rfl;have p1:wr.cell? ⟨gu,ou+ix*4+1,none⟩=some (.int .i64 x.w):=cF 1 _ rfl;have p2:wr.cell? ⟨gu,ou+ix*4+2,none⟩=some (.int .i64 x.f):=cF 2 _ rfl;have p3:wr.cell? ⟨gu,ou+ix*4+3,none⟩=some (.int .i64 x.h):=cF 3 _ rfl;have Ds:=I (fun W (hW:Below wr.heap.size wr W)=>(⟨(hW.cell (p:=⟨gu,ou+ix*4,none⟩) hg).trans p0,(hW.cell (p:=⟨gu,ou+ix*4+1,none⟩) hg).trans p1,(hW.cell (p:=⟨gu,ou+ix*4+2,none⟩) hg).trans p2,(hW.cell (p:=⟨gu,ou+ix*4+3,none⟩) hg).trans p3⟩:_/\_/\_/\_));have bZ:=I (fun W (hW:Below wr.heap.size wr W)=>hx.o.step hW);clear Rp cF p0 p1 p2 p3 iJ hg;generalize x.q=y0 at *;generalize x.w=y1 at *;generalize x.f=y2 at *;generalize x.h=y3 at *
       go_upto_region 22 with(fail)
       refine oK (lF (Z5n w.heap.size gu ou ix un uc qn qc mn mc qo mo y0 y1 y2 y3 bb)) (by kernel_rfl) (fun _ _ _ _ h _=>h) (jD (by kernel_rfl)) (oJ (by kernel_rfl)) (iV (by kernel_rfl)) ?hs ?he
       case hs =>
        intro i o hi listed a' w' H aU;have hb:=I H.below;obtain⟨t',df⟩:=a';obtain⟨f',rfl,hf⟩:=Z4p t' H.tsize;obtain rfl:df=[]:=H.defers;have cG:f' 1 = .pointer (some ⟨w.heap.size,0,none⟩):=H.sm 1 (by kernel_rfl);have cZ:f' 7 = .int .i64 (ix:Nat):=H.sm 7 (by kernel_rfl);have aA:=H.hL aU hf;clear aU H hf;rcases XC i (lI.1 hi).1 with rfl | rfl | rfl | rfl | rfl | rfl | rfl | rfl<;>obtain rfl:=bF hi;rw[cG];have hx:=bZ.o w' hb.o;obtain⟨c0,c1,c2⟩:=hx.c3;clear hx
        rotate_left
        rw[cG]
        rotate_left
        rw[aA 1 88 rfl rfl];have c2:=(bZ.o w' hb.o).cell 2 _ rfl
        rotate_left
        rw[cZ]
        rotate_left
        rw[aA 2 89 rfl rfl,aA 3 90 rfl rfl];have ii:=mH.o
        rotate_left
        rw[aA 4 91 rfl rfl];obtain⟨p0,p1,p2,p3⟩:=Ds.o w' hb.o
        rotate_left
        ·have fT:=aA 0 87 rfl rfl
         have dR:=aA 5 92 rfl rfl;clear aA;rw[fT,dR];clear fT dR cG cZ;refine aP rfl ?_
         go_wp2_with fail
         refine(pL.o w').mono ?_;rintro e w4 ⟨rfl,b4⟩;have bC:=I b4;clear b4
         go_wp2_with fail
         exact aI ⟨_,rfl,bC.o,rfl⟩
        rw[aA 6 93 rfl rfl]
        rotate_left
        all_goals clear aA cG cZ
        all_goals (refine aP rfl ?_;go_wp2_with fail;exact aI ⟨_,rfl,aG _ _,rfl⟩)
       case he =>
        intro listed a' w4 H aD;have rZ:=H.done 7 _ 94 rfl (aD 7 (by decide)) rfl;have aK:=I H.below;obtain⟨zf,hz,rfl⟩:=H.actz [87,88,89,90,91,92,93,94] (oL (by kernel_rfl));rw[hz] at rZ;clear H aD hz;simp only[fcL,fnL,Act.put,sbT,scS,scZ];rw[show zf 94=_ from rZ];clear rZ;have B7:=hw.tr aK.o;have X7:=I (bZ.o _ aK.o);clear aK hw hx Ds bZ
        cases bb with
        | false =>
         have HF:Hid (V=false):=I (by rw[HV.o,xD NV.o uR.o])
         go_wp2_with fail
         go_ret;exact⟨aF HF.o.symm,B7.o⟩
        | true =>
         have xZ:=I (Pd NV.o uR.o ha.o)
         go_wp2_with fail
         go_roundw
         case rel=>exact⟨ix+1,by go_num,by omega,xZ,B7,X7⟩
         case measure=>simp only[intOf];omega
      ·have ii:¬ (ix:Int)<un:=by omega
       have HF:Hid (V=true):=I (by rw[HV.o];exact Tm (by rw[dZ.o];omega) ha.o)
       go_wp2_with fail
       go_ret;exact⟨aF HF.o.symm,hw.o⟩
end
section
open Go.RowKit Go.Sort Go.Maps
theorem Z4q(t:Array Value)(h:t.size=29):∃ f:Nat->Value,t=#[f 0,f 1,f 2,f 3,f 4,f 5,f 6,f 7,f 8,f 9,f 10,f 11,f 12,f 13,f 14,f 15,f 16,f 17,f 18,f 19,f 20,f 21,f 22,f 23,f 24,f 25,f 26,f 27,f 28]/\∀ d,t.getD d undef=f d:=by
 obtain⟨l⟩:=t;have hl:l.length=29:=h
 have e:l=(List.range 29).map (fun i=>l.getD i undef):=by
  apply List.ext_getElem
  ·simp[hl]
  ·intro i h1 h2
   simp[List.getD,h1]
 exact⟨fun i=>l.getD i undef,congrArg List.toArray e,fun d=>by simp⟩
def Z5o(CB gq oq gm om ix k qn qc mn mc un uc nb bc:Nat)(uo bo:Option Addr)(q0 q3:Int)(q1 q2:ByteArray)(xa:Option Addr)(xn xc:Nat)(R:Bool)(E:Int):List Value:=[.pointer (some ⟨CB,0,none⟩),.slice (some ⟨gq,oq,none⟩) qn qc,.int .i64 (ix:Nat),.pointer (some ⟨gq,oq+ix*5,none⟩),.agg #[.int .i64 q0,.string q1,.string q2,.int .i64 q3,.slice xa xn xc],.pointer (some ⟨CB,1,none⟩),.slice (some ⟨gm,om,none⟩) mn mc,.int .i64 (k:Nat),.pointer (some ⟨gm,om+k*3,none⟩),.pointer (some ⟨gm,om+k*3,none⟩),.slice bo nb bc,.tuple #[.bool R,.int .i64 E],.tuple #[.bool R,.int .i64 E],.bool R,.int .i64 E,.bool R,.int .i64 E]
theorem Zqu(w:World)(c:Crw)(cs:List Value)(ha:ArgR w c cs)(hv:bG c=true)(ix k:Nat)(p:Prd)(m:Mem)(hp:c.qs[ix]?=some p)(hm:c.ms[k]?=some m) :
  Calls Tryz.prog 117 #[.agg cs.toArray,.int .i64 (ix:Nat),.int .i64 (k:Nat)] w fun e w'=>e = .returned (.bool (hmB p m))/\Below w.heap.size w w':=by
 obtain⟨-,-,-,NW,Jz,-⟩:=tL hv;have Xv:=NW p (bU hp);have NX:=XE (Jz m (bU hm));have NY:=ha.len p (bU hp);have kB:=(ha.bl m (bU hm)).1;have Xq:ix<c.qs.length:=(fD.1 hp).1;have Dr:k<c.ms.length:=(fD.1 hm).1;have Z6:=ha.ok.nq;have qZ:=ha.ok.nm;obtain⟨qo,qc,mo,mc,uo,uc,rfl,dL,cN,-,-⟩:=ha.crw;obtain⟨gq,oq,vs,Z7,pP,bH,aH⟩:=dL.at ix p hp;obtain⟨gm,om,cm,lC,gI,dX,nB⟩:=cN.at k m hm;obtain⟨xa,xn,xc,mS,-⟩:=bH.form;subst mS;obtain⟨bo,bc,to',tc,rfl,Ck,-⟩:=dX;have Gj:=I (fun W (hW:Below w.heap.size w W)=>Zue p W _ _ _ m.b bo m.b.length bc Xv NY (bH.below hW) rfl (by omega) NX (Ck.below hW));have HR:Hid (hmB p m=((rI p m.b).1&&((rI p m.b).2==0))):=I rfl;have p0:w.cell? ⟨gq,oq+ix*5,none⟩=some (.int .i64 p.k):=aH 0 _ rfl;have p1:w.cell? ⟨gq,oq+ix*5+1,none⟩=some (.string (aB p.l)):=aH 1 _ rfl;have p2:w.cell? ⟨gq,oq+ix*5+2,none⟩=some (.string (aB p.r)):=aH 2 _ rfl;have p3:w.cell? ⟨gq,oq+ix*5+3,none⟩=some (.int .i64 p.c):=aH 3 _ rfl;have p4:w.cell? ⟨gq,oq+ix*5+4,none⟩=some (.slice xa xn xc):=aH 4 _ rfl;have m0:w.cell? ⟨gm,om+k*3,none⟩=some (.slice bo m.b.length bc):=nB 0 _ rfl;have kQ:=I (fun W (hW:Below w.heap.size w W)=>(⟨(hW.cell (p:=⟨gq,oq+ix*5,none⟩) pP).trans p0,(hW.cell (p:=⟨gq,oq+ix*5+1,none⟩) pP).trans p1,(hW.cell (p:=⟨gq,oq+ix*5+2,none⟩) pP).trans p2,(hW.cell (p:=⟨gq,oq+ix*5+3,none⟩) pP).trans p3,(hW.cell (p:=⟨gq,oq+ix*5+4,none⟩) pP).trans p4⟩:_/\_/\_/\_/\_));have qK:=I (fun W (hW:Below w.heap.size w W)=>(hW.cell (p:=⟨gm,om+k*3,none⟩) gI).trans m0);have mH:Hid ((ix:Int)<(c.qs.length:Nat)):=I (by omega);have wB:Hid ((k:Int)<(c.ms.length:Nat)):=I (by omega);subst Z7;subst lC;clear hp hm Xv NX NY NW Jz dL cN bH aH nB Ck p0 p1 p2 p3 p4 m0 ha pP gI hv kB;generalize hmB p m=VR at *;generalize (rI p m.b).1=R at *;generalize (rI p m.b).2=E at *;generalize m.b.length=nb at *;generalize p.k=q0 at *;generalize aB p.l=q1 at *;generalize aB p.r=q2 at *;generalize p.c=q3 at *;generalize c.qs.length=qn at *;generalize c.ms.length=mn at *;generalize c.us.length=un at *;have X1:=hnw w 26 [.slice (some ⟨gq,oq,none⟩) qn qc,.slice (some ⟨gm,om,none⟩) mn mc,.slice uo un uc];have B1:=I (bwA w (.cells #[.slice (some ⟨gq,oq,none⟩) qn qc,.slice (some ⟨gm,om,none⟩) mn mc,.slice uo un uc] 26))
 go_enter Tryz.func117,Tryz.ntmps117
 go_upto_region 1 with(fail)
 generalize w.alloc (.cells #[.slice (some ⟨gq,oq,none⟩) qn qc,.slice (some ⟨gm,om,none⟩) mn mc,.slice uo un uc] 26)=w1 at *;have bZ:=I (fun W (hW:Below w1.heap.size w1 W)=>X1.o.step hW);have kQ:=I (fun W (hW:Below w1.heap.size w1 W)=>kQ.o W (B1.o.trans (hW.mono B1.o.size)));have qK:=I (fun W (hW:Below w1.heap.size w1 W)=>qK.o W (B1.o.trans (hW.mono B1.o.size)));have Gj:=I (fun W (hW:Below w1.heap.size w1 W)=>Gj.o W (B1.o.trans (hW.mono B1.o.size)));clear X1;refine oK (lF (Z5o w.heap.size gq oq gm om ix k qn qc mn mc un uc nb bc uo bo q0 q3 q1 q2 xa xn xc R E)) (by kernel_rfl) (fun _ _ _ _ h _=>h) (jD (by kernel_rfl)) (oJ (by kernel_rfl)) (iV (by kernel_rfl)) ?hs ?he
 case hs =>
  intro i o hi listed a' w' H aU;have hb:=I H.below;obtain⟨t',df⟩:=a';obtain⟨f',rfl,hf⟩:=Z4q t' H.tsize;obtain rfl:df=[]:=H.defers;have bB:f' 3 = .pointer (some ⟨w.heap.size,0,none⟩):=H.sm 3 (by kernel_rfl);have cG:f' 1 = .int .i64 (ix:Nat):=H.sm 1 (by kernel_rfl);have eC:f' 2 = .int .i64 (k:Nat):=H.sm 2 (by kernel_rfl);have aA:=H.hL aU hf;clear aU H hf;rcases Ztm i (lI.1 hi).1 with rfl | rfl | rfl | rfl | rfl | rfl | rfl | rfl | rfl | rfl | rfl | rfl | rfl | rfl | rfl | rfl | rfl<;>obtain rfl:=bF hi;rw[bB]
  rotate_left
  rw[aA 0 10 rfl rfl];have c0:=(bZ.o w' hb.o).cell 0 _ rfl
  rotate_left
  rw[cG]
  rotate_left
  rw[aA 1 11 rfl rfl,aA 2 12 rfl rfl];have ii:=mH.o
  rotate_left
  rw[aA 3 13 rfl rfl];obtain⟨p0,p1,p2,p3,p4⟩:=kQ.o w' hb.o
  rotate_left
  rw[bB]
  rotate_left
  rw[aA 5 15 rfl rfl];have c1:=(bZ.o w' hb.o).cell 1 _ rfl
  rotate_left
  rw[eC]
  rotate_left
  rw[aA 6 16 rfl rfl,aA 7 17 rfl rfl];have kk:=wB.o
  rotate_left
  rw[aA 8 18 rfl rfl]
  rotate_left
  rw[aA 9 19 rfl rfl];have p0:=qK.o w' hb.o
  rotate_left
  ·have fL:=aA 4 14 rfl rfl
   have fK:=aA 10 20 rfl rfl;clear aA;rw[fL,fK];clear fL fK bB cG eC;refine aP rfl ?_
   go_wp2_with fail
   refine(Gj.o w' hb.o).mono ?_;rintro e w4 ⟨rfl,b4⟩;have bC:=I b4;clear b4
   go_wp2_with fail
   exact aI ⟨_,rfl,bC.o,rfl⟩
  rw[aA 11 21 rfl rfl]
  rotate_left
  rw[aA 12 9 rfl rfl]
  rotate_left
  rw[aA 12 9 rfl rfl]
  rotate_left
  rw[aA 13 22 rfl rfl]
  rotate_left
  rw[aA 14 23 rfl rfl]
  rotate_left
  all_goals clear aA bB cG eC
  all_goals (refine aP rfl ?_;go_wp2_with fail;exact aI ⟨_,rfl,aG _ _,rfl⟩)
 case he =>
  intro listed a' w4 H aD;have iD:=H.done 15 _ 7 rfl (aD 15 (by decide)) rfl;have Rq:=H.done 16 _ 8 rfl (aD 16 (by decide)) rfl;have aK:=I H.below;obtain⟨zf,hz,rfl⟩:=H.actz [10,11,12,13,14,15,16,17,18,19,20,21,9,22,23,7,8] (oL (by kernel_rfl));rw[hz] at iD Rq;clear H aD hz;simp only[fcL,fnL,Act.put,sbT,scS,scZ];rw[show zf 7=_ from iD];clear iD;rw[show zf 8=_ from Rq];clear Rq;have B7:=B1.tr aK.o;clear aK kQ qK Gj bZ B1;by_cases hE:E=0
  ·have q1:(E==0)=true:=by simpa using hE
   cases R with
   | false =>
    go_wp2_with fail
    go_ret;exact⟨by rw[HR.o,q1];rfl,B7.o⟩
   | true =>
    go_wp2_with fail
    go_ret;exact⟨by rw[HR.o,q1];rfl,B7.o⟩
  ·have q1:(E==0)=false:=by simpa using hE
   go_wp2_with fail
   go_ret;exact⟨by rw[HR.o,q1,Bool.and_false];rfl,B7.o⟩
theorem Z03{c:Crw}{x:Use}{k:Nat}{p:Prd}{m:Mem}(hp:c.qs[x.q.toNat]?=some p)(hm:c.ms[k]?=some m):uB c (bS c) x k=Fl (hmB p m) m.r x.f x.h k:=by
 have e:(bS c).getD x.q.toNat []=c.ms.map (hmB p):=by
  unfold bS;rw[bR,dK,hp];rfl
 have e2:(c.ms.map (hmB p)).getD k false=hmB p m:=by
  rw[bR,dK,hm];rfl
 have e3:c.ms.getD k ⟨[],[],0⟩=m:=by
  rw[bR,hm];rfl
 unfold uB;rw[e,e2,e3]
theorem FV(w:World)(c:Crw)(cs:List Value)(ha:ArgR w c cs)(hv:bG c=true)(x:Use)(k:Nat)(hx:nG c.qs.length c.ms.length x=true)(hk:k<c.ms.length) :
  Calls Tryz.prog 127 #[.agg cs.toArray,.agg (cQ x).toArray,.int .i64 (k:Nat)] w fun e w'=>e = .returned (.bool (uB c (bS c) x k))/\Below w.heap.size w w':=by
 obtain⟨mG,sM,-,-,-,-⟩:=Le hx;obtain⟨ix,Dc⟩:∃ n:Nat,x.q=(n:Int):=⟨x.q.toNat,by omega⟩;obtain⟨p,hp⟩:∃ p,c.qs[x.q.toNat]?=some p:=⟨_,aL sM⟩;obtain⟨m,hm⟩:∃ m,c.ms[k]?=some m:=⟨_,aL hk⟩;have HR:Hid (uB c (bS c) x k=(hmB p m&&(m.r == -1||decide (x.f<=m.r))&&(x.h == -1||x.h==(k:Int)))):=I (Z03 hp hm)
 have Mu:c.qs[ix]?=some p:=by rw[<- hp,Dc];rfl
 have Gj:=I (fun W (hW:Below w.heap.size w W)=>Zqu W c cs (ha.below hW) hv ix k p m Mu hm);have qZ:=ha.ok.nm;obtain⟨qo,qc,mo,mc,uo,uc,rfl,-,cN,-,-⟩:=ha.crw;obtain⟨gm,om,cm,lC,gI,dX,nB⟩:=cN.at k m hm;obtain⟨bo,bc,to',tc,rfl,-,-⟩:=dX;have m0:w.cell? ⟨gm,om+k*3,none⟩=some (.slice bo m.b.length bc):=nB 0 _ rfl;have m1:w.cell? ⟨gm,om+k*3+1,none⟩=some (.slice to' m.t.length tc):=nB 1 _ rfl;have m2:w.cell? ⟨gm,om+k*3+2,none⟩=some (.int .i64 m.r):=nB 2 _ rfl;have qK:=I (fun W (hW:Below w.heap.size w W)=>(⟨(hW.cell (p:=⟨gm,om+k*3,none⟩) gI).trans m0,(hW.cell (p:=⟨gm,om+k*3+1,none⟩) gI).trans m1,(hW.cell (p:=⟨gm,om+k*3+2,none⟩) gI).trans m2⟩:_/\_/\_));have wB:Hid ((k:Int)<(c.ms.length:Nat)):=I (by omega);obtain⟨x0,x1,x2,x3⟩:=x;obtain rfl:x0=(ix:Int):=Dc;unfold cQ;subst lC;clear hp Mu hm cN nB m0 m1 m2 ha gI hv hx mG sM hk;generalize hmB p m=hb at *;generalize uB c (bS c) _ k=VR at *;generalize m.b.length=nb at *;generalize m.t.length=nt at *;generalize m.r=mr at *;generalize c.qs.length=qn at *;generalize c.ms.length=mn at *;generalize c.us.length=un at *;obtain⟨X1,U1,B1⟩:=Ht w 26 39 [.slice qo qn qc,.slice (some ⟨gm,om,none⟩) mn mc,.slice uo un uc] [.int .i64 (ix:Nat),.int .i64 x1,.int .i64 x2,.int .i64 x3];have X1:=I X1;have U1:=I U1;have B1:=I B1
 go_enter Tryz.func127,Tryz.ntmps127
 go_upto_region 1 with(fail)
 generalize (w.alloc (.cells #[.slice qo qn qc,.slice (some ⟨gm,om,none⟩) mn mc,.slice uo un uc] 26)).alloc (.cells #[.int .i64 (ix:Nat),.int .i64 x1,.int .i64 x2,.int .i64 x3] 39)=w1 at *;have c1:=X1.o.cell 1 _ rfl;have kk:=wB.o;obtain⟨s0,s1,s2⟩:=qK.o w1 B1.o;have O1:=hnw w1 44 [.slice none 0 0,.slice none 0 0,.int .i64 0];have BO:=I (bwA w1 (.cells #[.slice none 0 0,.slice none 0 0,.int .i64 0] 44))
 go_upto_region 2 with(refine sG rfl 44 (.tmp 7) (.tmp 12) rfl w1.heap.size #[.slice bo nb bc,.slice to' nt tc,.int .i64 mr] (by rfl) (by rfl) 44 _ O1.o (ev _ _ _) rfl (by simp[Value.oneCell']) ?_;intro w9 s9 u9;have S9:=I s9;have U9:=I u9;clear s9 u9)
 have A9:=I (U9.o.below BO.o (aO _));have S9:Hid (aC w9 w1.heap.size 44 [.slice bo nb bc,.slice to' nt tc,.int .i64 mr]):=I S9.o;have X9:=X1.st A9.o;have V9:=I (U1.o.step A9.o);have L9:=B1.tr A9.o;clear O1 BO U9 s0 s1 s2 B1 X1 U1 A9 c1 qK;have u0:=V9.o.cell 0 _ rfl
 go_wp2_with (refine wpList_load_row rfl 26 (.tmp 3) rfl (w.heap.size) ?x1 26 #[.slice qo qn qc,.slice (some ⟨gm,om,none⟩) mn mc,.slice uo un uc] (0,0) _ X9.o Tryz.underlying26 rfl (kU _ _ _) ?_;(case x1=>rfl))
 refine(Gj.o w9 L9.o).mono ?_;rintro e wa ⟨rfl,ba⟩;have SA:=S9.st ba;have VA:=I (V9.o.step ba);have LA:=L9.tr ba;clear ba S9 V9 L9 u0 Gj X9;have c2:=SA.o.cell 2 _ rfl;have u2:=VA.o.cell 2 _ rfl;have u3:=VA.o.cell 3 _ rfl;have HR:Hid (VR=(hb&&(mr == -1||decide (x2<=mr))&&(x3 == -1||x3==(k:Int)))):=HR
 cases hb with
 | false =>
  go_wp2_with fail
  go_ret;exact⟨by rw[HR.o];rfl,LA.o⟩
 | true =>
  by_cases h1:mr = -1
  ·have q1:(mr == -1)=true:=by simpa using h1
   by_cases h3:x3 = -1
   ·have q3:(x3 == -1)=true:=by simpa using h3
    go_wp2_with fail
    go_ret;exact⟨by rw[HR.o,q1,q3];rfl,LA.o⟩
   have q3:(x3 == -1)=false:=by simpa using h3
   by_cases h4:x3=(k:Int)
   ·have q4:(x3==(k:Int))=true:=by simpa using h4
    go_wp2_with fail
    go_ret;exact⟨by rw[HR.o,q1,q3,q4];rfl,LA.o⟩
   have q4:(x3==(k:Int))=false:=by simpa using h4
   go_wp2_with fail
   go_ret;exact⟨by rw[HR.o,q1,q3,q4];rfl,LA.o⟩
  have q1:(mr == -1)=false:=by simpa using h1
  by_cases h2:mr≥x2
  ·have d2:decide (x2<=mr)=true:=decide_eq_true h2
   by_cases h3:x3 = -1
   ·have q3:(x3 == -1)=true:=by simpa using h3
    go_wp2_with fail
    go_ret;exact⟨by rw[HR.o,q1,d2,q3];rfl,LA.o⟩
   have q3:(x3 == -1)=false:=by simpa using h3
   by_cases h4:x3=(k:Int)
   ·have q4:(x3==(k:Int))=true:=by simpa using h4
    go_wp2_with fail
    go_ret;exact⟨by rw[HR.o,q1,d2,q3,q4];rfl,LA.o⟩
   have q4:(x3==(k:Int))=false:=by simpa using h4
   go_wp2_with fail
   go_ret;exact⟨by rw[HR.o,q1,d2,q3,q4];rfl,LA.o⟩
  have d2:decide (x2<=mr)=false:=decide_eq_false (by omega)
  go_wp2_with fail
  go_ret;exact⟨by rw[HR.o,q1,d2];rfl,LA.o⟩
end
section
open Go.RowKit Go.Sort Go.Maps
theorem Z4r(t:Array Value)(h:t.size=42):∃ f:Nat->Value,t=#[f 0,f 1,f 2,f 3,f 4,f 5,f 6,f 7,f 8,f 9,f 10,f 11,f 12,f 13,f 14,f 15,f 16,f 17,f 18,f 19,f 20,f 21,f 22,f 23,f 24,f 25,f 26,f 27,f 28,f 29,f 30,f 31,f 32,f 33,f 34,f 35,f 36,f 37,f 38,f 39,f 40,f 41]/\∀ d,t.getD d undef=f d:=by
 obtain⟨l⟩:=t;have hl:l.length=42:=h
 have e:l=(List.range 42).map (fun i=>l.getD i undef):=by
  apply List.ext_getElem
  ·simp[hl]
  ·intro i h1 h2
   simp[List.getD,h1]
 exact⟨fun i=>l.getD i undef,congrArg List.toArray e,fun d=>by simp⟩
def FW(CB WS gu ou ix k rc un uc qn qc mn mc:Nat)(ro qo mo:Option Addr)(y0 y1 y2 y3:Int)(bb:Bool)(i:Nat)(W:World)(v:Value):Prop:=match i with
 | 0=>v = .slice ro k rc
 | 1=>v = .agg #[.slice qo qn qc,.slice mo mn mc,.slice (some ⟨gu,ou,none⟩) un uc]
 | 2=>v = .pointer (some ⟨CB,2,none⟩)
 | 3=>v = .slice (some ⟨gu,ou,none⟩) un uc
 | 4=>v = .int .i64 (ix:Nat)
 | 5=>v = .pointer (some ⟨gu,ou+ix*4,none⟩)
 | 6=>v = .agg #[.int .i64 y0,.int .i64 y1,.int .i64 y2,.int .i64 y3]
 | 7=>v = .int .i64 (k:Nat)
 | 8=>v = .bool bb
 | 9=>∃ V,v = .slice (some ⟨V,0,none⟩) 1 1/\WS<=V/\aC W V 4 [.bool bb]
 | _=>True
theorem Zyc(CB WS gu ou ix k rc un uc qn qc mn mc:Nat)(ro qo mo:Option Addr)(y0 y1 y2 y3:Int)(bb:Bool):∀ i w w' v,FW CB WS gu ou ix k rc un uc qn qc mn mc ro qo mo y0 y1 y2 y3 bb i w v->Below w.heap.size w w'->FW CB WS gu ou ix k rc un uc qn qc mn mc ro qo mo y0 y1 y2 y3 bb i w' v:=by
 intro i w w' v h hb
 match i with
 | 0=>exact h
 | 1=>exact h
 | 2=>exact h
 | 3=>exact h
 | 4=>exact h
 | 5=>exact h
 | 6=>exact h
 | 7=>exact h
 | 8=>exact h
 | 9=>obtain⟨V,h1,h2,h3⟩:=h;exact⟨V,h1,h2,h3.step hb⟩
 | k+10=>trivial
theorem RowM.addS {α:Type} {EL:World->(Nat->Prop)->α->List Value->Prop} (hE:Vu EL) {k base:Nat} {w2 wa:World} {lo:Nat} {bad:Nat->Prop} {ao:Option Addr} {n cp g5 off5 c5:Nat} {xs:List α} {vss:List (List Value)} {x:α} {vs:List Value} (h:RowM EL k base w2 lo bad ao n cp xs vss)
  (hx:EL w2 (fun g=>base<=g/\¬ bad g/\blk ao≠some g) x vs) (hk:vs.length=k) (ho:OwnK wa lo k (n+1) c5 (vss.flatten++vs) (some ⟨g5,off5,none⟩)) (hg:w2.grownBy wa (blk ao)) (gM:blk ao=some g5\/w2.heap.size<=g5) :
  RowM EL k base wa lo bad (some ⟨g5,off5,none⟩) (n+1) c5 (xs++[x]) (vss++[vs]):=by
 have jX:∀ g,blk ao≠some g->g<w2.heap.size->blk (some (⟨g5,off5,none⟩:Addr))≠some g:=fun g hb hl e=>by
  have e':g5=g:=bF e;subst e';rcases gM with h1 | h1
  ·exact hb h1
  ·omega
 have aV:∀ (y:α) (us:List Value),EL w2 (fun g=>base<=g/\¬ bad g/\blk ao≠some g) y us->EL wa (fun g=>base<=g/\¬ bad g/\blk (some (⟨g5,off5,none⟩:Addr))≠some g) y us:=fun y us hy =>
  hE _ _ _ _ y us (fun g hp hl=>hg.block g hl (fun e=>hp.2.2 e.symm)) hg.size (fun g hp hl=>⟨hp.1,hp.2.1,jX g hp.2.2 hl⟩) hy
 refine⟨by rw[List.flatten_append];simpa using ho,by rw[gL,gL,h.len];rfl,by rw[gL,<- h.cnt];rfl,fun us hu=>?_,fun i y us hy hu=>?_⟩
 ·rcases kI.1 hu with hu | hu
  ·exact h.elk us hu
  ·rw[List.mem_singleton.1 hu];exact hk
 ·rcases gQ i xs.length with hl | hl
  ·rw[List.getElem?_append_left hl] at hy
   rw[List.getElem?_append_left (by rw[h.len];exact hl)] at hu;exact aV _ _ (h.each i y us hy hu)
  ·rw[List.getElem?_append_right hl] at hy
   rw[List.getElem?_append_right (by rw[h.len];exact hl),h.len] at hu
   have h0:i-xs.length=0:=by
    have:=(fD.1 hy).1;simp at this;omega
   rw[h0] at hy hu
   obtain rfl:x=y:=by simpa using hy
   obtain rfl:vs=us:=by simpa using hu
   exact aV _ _ hx
theorem qa{w w':World}{B k n cap:Nat}{xs:List Value}{ao:Option Addr}(hO:OwnK w B k n cap xs ao)(hg:w.grownBy w' (blk ao))(hB:B<=w.heap.size):Below B w w':=⟨hg.os,hg.tape,hg.output,hg.size,fun i hi=>hg.block i (gR hi hB) (fun e=>by
 have:=(hO.blk_lt e.symm).1
 omega)⟩
theorem Zuh{w w':World}{b:Option Nat}(h:w.grownBy w' b):Only w w' (fun g=>b=some g):=⟨h.os,h.tape,h.output,h.size,fun g hg hn=>h.block g hg (fun e=>hn e.symm)⟩
theorem pD(v0 v1 v2 v3:Value):(Tryz.prog.info? 137).map (·.size)=some #[v0,v1,v2,v3].size:=by
 show _=some 4
 kernel_rfl
theorem Zui:(Tryz.prog.info? 4).map (fun i=>(i.zero,i.size,i.bytes))=some (some (.bool false),1,1):=by kernel_rfl
theorem Zyd{row:List Bool}{m:Nat}(hm:m<row.length):bvs (row.take m)++[Value.bool (row.getD m false)]=bvs (row.take (m+1)):=by
 rw[lN,aL hm];unfold bvs;rw[List.map_append,bR,aL hm];rfl
def rL(w:World)(c:Crw)(C:List (List Bool))(cs:List Value):Prop:=∃ qo qc mo mc uo uc co cc,cs=[.slice qo c.qs.length qc,.slice mo c.ms.length mc,.slice uo c.us.length uc,.slice co C.length cc]/\tK w (fun _=>True) c.qs qo/\uA w c.ms mo/\aY cQ w uo c.us/\lY w C co
theorem rL.below{w w':World}{c:Crw}{C:List (List Bool)}{cs:List Value}(h:rL w c C cs)(hb:Below w.heap.size w w'):rL w' c C cs:=by
 obtain⟨qo,qc,mo,mc,uo,uc,co,cc,h1,h2,h3,h4,h5⟩:=h;exact⟨qo,qc,mo,mc,uo,uc,co,cc,h1,h2.below hb,h3.below hb,h4.below hb,h5.below hb⟩
theorem ZN(w:World)(t1 t2:TypeId)(a b:List Value):aC ((w.alloc (.cells a.toArray t1)).alloc (.cells b.toArray t2)) w.heap.size t1 a/\aC ((w.alloc (.cells a.toArray t1)).alloc (.cells b.toArray t2)) (w.heap.size+1) t2 b/\Below w.heap.size w ((w.alloc (.cells a.toArray t1)).alloc (.cells b.toArray t2))/\((w.alloc (.cells a.toArray t1)).alloc (.cells b.toArray t2)).heap.size=w.heap.size+2:=by
 obtain⟨h1,h2,h3⟩:=Ht w t1 t2 a b;exact⟨h1,h2,h3,by rw[eH,eH]⟩
theorem fl(w:World)(c:Crw)(cs:List Value)(ha:ArgR w c cs)(hv:bG c=true) :
  Calls Tryz.prog 112 #[.agg cs.toArray] w fun e w'=>(∃ ts,e = .returned (.agg ts.toArray)/\rL w' c (aW c) ts)/\Below w.heap.size w w':=by
 obtain⟨-,wh,-,-,-,NZ⟩:=tL hv;have rH:=I (fun x (hx:x∈c.us) k (hk:k<c.ms.length) W (hW:Below w.heap.size w W)=>FV W c cs (ha.below hW) hv x k (NZ x hx) hk);obtain⟨qo,qc,mo,mc,uo,uc,rfl,dL,cN,dN,-⟩:=ha.crw;have Uv:=I (fun W (hW:Below w.heap.size w W)=>dL.below hW);have nA:=I (fun W (hW:Below w.heap.size w W)=>cN.below hW);have jJ:=I (fun W (hW:Below w.heap.size w W)=>dN.below hW);have gV:=ha.nu;have lT:Hid (aW c=c.us.map (eY c (bS c))):=I rfl;obtain⟨CF,hCF⟩:=exq (aW c);rw[hCF] at lT ⊢;have Tv:Hid (∀ W co cc,Below w.heap.size w W->lY W CF co->CF.length=c.us.length->rL W c CF [.slice qo c.qs.length qc,.slice mo c.ms.length mc,.slice uo c.us.length uc,.slice co c.us.length cc]):=I (fun W co cc hW hr hl=>⟨qo,qc,mo,mc,uo,uc,co,cc,by rw[hl],Uv.o W hW,nA.o W hW,jJ.o W hW,hr⟩);clear hCF dL cN dN ha hv NZ;have eX:=I (fun x=>Sy c (bS c) x)
 have Cj:Hid (∀ x k,k<c.ms.length->(eY c (bS c) x).getD k false=uB c (bS c) x k):=I (fun x k hk=>by
  unfold eY
  rw[bR,dK,List.getElem?_range hk];rfl)
 generalize eW:c.qs.length=qn at *;generalize cY:c.ms.length=mn at *;generalize dH:c.us.length=un at *;have dZ:=I dH;clear eW cY dH;obtain⟨X1,R1,B1,mQ⟩:=ZN w 26 137 [.slice qo qn qc,.slice mo mn mc,.slice uo un uc] [.slice none 0 0,.slice none 0 0,.slice none 0 0,.slice none 0 0];have X1:=I X1;have R1:=I R1;have B1:=I B1
 go_enter Tryz.func112,Tryz.ntmps112
 go_upto_region 1 with(fail)
 have zO:=I mQ;clear mQ;generalize (w.alloc (.cells #[.slice qo qn qc,.slice mo mn mc,.slice uo un uc] 26)).alloc (.cells #[.slice none 0 0,.slice none 0 0,.slice none 0 0,.slice none 0 0] 137)=w1 at *;have O1:=hnw w1 137 [.slice none 0 0,.slice none 0 0,.slice none 0 0,.slice none 0 0];have BO:=I (bwA w1 (.cells #[.slice none 0 0,.slice none 0 0,.slice none 0 0,.slice none 0 0] 137))
 go_upto_region 2 with(first | (refine wpList_load_row rfl 26 (.tmp 1) rfl (w.heap.size) ?xl9 26 #[.slice qo qn qc,.slice mo mn mc,.slice uo un uc] (0,0) _ X1.o Tryz.underlying26 rfl (kU _ _ _) ?_;(case xl9=>rfl)) | (refine sG rfl 137 (.tmp 3) (.tmp 8) rfl w1.heap.size #[.slice qo qn qc,.slice mo mn mc,.slice uo un uc,.slice none 0 0] (by rfl) (by rfl) 137 _ O1.o (pD _ _ _ _) rfl (by simp[Value.oneCell']) ?_;intro w9 s9 u9;have S9:=I s9;have U9:=I u9;clear s9 u9))
 have A9:=I (U9.o.below BO.o (aO _));have S9:Hid (aC w9 w1.heap.size 137 [.slice qo qn qc,.slice mo mn mc,.slice uo un uc,.slice none 0 0]):=I S9.o;have X9:=X1.st A9.o;have R9:=I (R1.o.step A9.o);have L9:=B1.tr A9.o;obtain⟨T,hT⟩:=exq (w1.heap.size);rw[hT] at S9 ⊢;have fA:Hid (T=w.heap.size+2):=I (by rw[<- hT];exact zO.o);clear O1 BO U9 X1 R1 B1 A9 hT zO;have M9:Hid (RowM BlE 1 (T+1) w9 (T+1) (· = T) none 0 0 (CF.take 0) []):=I (by rw[List.take_zero];exact RowM.nil _ _ _)
 go_upto_region 3 with(fail)
 go_loopw [4] (fun iv wr=>∃ (i:Nat) (co:Option Addr) (cc:Nat) (vss:List (List Value)),iv = .int .i64 i/\i<=un/\Hid (aC wr T 137 [.slice qo qn qc,.slice mo mn mc,.slice uo un uc,.slice co i cc])/\Hid (RowM BlE 1 (T+1) wr (T+1) (· = T) co i cc (CF.take i) vss)/\Hid (aC wr w.heap.size 26 [.slice qo qn qc,.slice mo mn mc,.slice uo un uc])/\Hid (aC wr (w.heap.size+1) 137 [.slice none 0 0,.slice none 0 0,.slice none 0 0,.slice none 0 0])/\Hid (Below w.heap.size w wr)) (fun i _=>(un-intOf i).toNat)
 case atStart=>exact⟨0,none,0,[],rfl,by omega,S9,M9,X9,R9,L9⟩
 case round =>
  clear S9 M9 X9 R9 L9;obtain⟨ix,co,cc,vss,rfl,hi,S4,M4,X4,R4,B4⟩:=hrel;have e2:=w1i ix (by omega);have c2:=X4.o.cell 2 _ rfl;by_cases aE:ix<un
  ·have ii:(ix:Int)<un:=by omega
   have mH:=I ii;obtain⟨x,hx⟩:∃ x,c.us[ix]?=some x:=⟨_,aL (by rw[dZ.o];exact aE)⟩;have rH:=I (fun k hk=>rH.o x (bU hx) k hk);obtain⟨gu,ou,eV,hg,cF⟩:=(jJ.o wr B4.o).at mN ix x hx;have p0:wr.cell? ⟨gu,ou+ix*4,none⟩=some (.int .i64 x.q):=cF 0 _ rfl;have p1:wr.cell? ⟨gu,ou+ix*4+1,none⟩=some (.int .i64 x.w):=cF 1 _ rfl;have p2:wr.cell? ⟨gu,ou+ix*4+2,none⟩=some (.int .i64 x.f):=cF 2 _ rfl;have p3:wr.cell? ⟨gu,ou+ix*4+3,none⟩=some (.int .i64 x.h):=cF 3 _ rfl;have Ds:=I (fun W (hW:Below wr.heap.size wr W)=>(⟨(hW.cell (p:=⟨gu,ou+ix*4,none⟩) hg).trans p0,(hW.cell (p:=⟨gu,ou+ix*4+1,none⟩) hg).trans p1,(hW.cell (p:=⟨gu,ou+ix*4+2,none⟩) hg).trans p2,(hW.cell (p:=⟨gu,ou+ix*4+3,none⟩) hg).trans p3⟩:_/\_/\_/\_));have Uy:Hid (CF.take (ix+1)=CF.take ix++[eY c (bS c) x]):=I (by rw[lN,lT.o,dK,hx];rfl);subst eV;clear hx cF p0 p1 p2 p3 hg;unfold cQ at rH;have eX:=I (eX.o x);have Cj:=I (fun k hk=>Cj.o x k hk);obtain⟨RW,hRW⟩:=exq (eY c (bS c) x);rw[hRW] at Uy eX Cj;obtain⟨G,hG⟩:=exq (uB c (bS c) x);rw[hG] at rH Cj;clear hRW hG;generalize x.q=y0 at *;generalize x.w=y1 at *;generalize x.f=y2 at *;generalize x.h=y3 at *;have lK:Hid (∀ g,blk co=some g->g<wr.heap.size):=I (fun g hg=>(M4.o.own.blk_lt hg).2);have bx:=bwA wr (.cells #[] 4);have O5:=I (OwnK.made wr 4 1);have W5:=I bx;have S5:=S4.st bx;have X5:=X4.st bx;have R5:=I (R4.o.step bx);have B5:=B4.tr bx;have AN:=I S4.o.lt;clear bx S4 X4 R4
   go_upto_region 7 with(fail)
   clear c2;generalize wr.alloc (.cells #[] 4)=w5 at *;generalize wr=wo at *
   go_loopw [5,6] (fun rv kv wq=>∃ (k:Nat) (ro:Option Addr) (rc:Nat),kv = .int .i64 k/\k<=mn/\rv = .slice ro k rc/\Hid (OwnK wq wo.heap.size 1 k rc (bvs (RW.take k)) ro)/\Hid (Below wo.heap.size wo wq)/\Hid (Below w.heap.size w wq)/\Hid (aC wq T 137 [.slice qo qn qc,.slice mo mn mc,.slice (some ⟨gu,ou,none⟩) un uc,.slice co ix cc])/\Hid (aC wq w.heap.size 26 [.slice qo qn qc,.slice mo mn mc,.slice (some ⟨gu,ou,none⟩) un uc])/\Hid (aC wq (w.heap.size+1) 137 [.slice none 0 0,.slice none 0 0,.slice none 0 0,.slice none 0 0])) (fun _ k _=>(mn-intOf k).toNat)
   case atStart=>exact⟨0,_,0,rfl,by omega,rfl,I (by simpa [bvs] using O5.o),W5,B5,S5,X5,R5⟩
   case round =>
    clear O5 W5 S5 X5 R5 B5;obtain⟨k,ro,rc,rfl,hk,rfl,O6,W6,B6,S6,X6,R6⟩:=hrel;have e3:=w1i k (by omega);have c1:=X6.o.cell 1 _ rfl;by_cases bT:k<mn
    ·have kk:(k:Int)<mn:=by omega
     have rH:=I (fun W (hW:Below wr.heap.size wr W)=>rH.o k bT W (B6.o.trans (hW.mono B6.o.size)));obtain⟨bb,dJ⟩:=exq (G k);rw[dJ] at rH;have cU:Hid (bvs (RW.take k)++[.bool bb]=bvs (RW.take (k+1))):=I (by rw[<- dJ,<- Cj.o k bT];exact Zyd (by rw[eX.o];exact bT));clear dJ;have Ds:=I (fun W (hW:Below wr.heap.size wr W)=>Ds.o W (W6.o.trans (hW.mono W6.o.size)));have bZ:=I (fun W (hW:Below wr.heap.size wr W)=>X6.o.step hW);obtain⟨PR,hPR⟩:=exq (bvs (RW.take k));rw[hPR] at O6 cU;clear hPR
     go_upto_region 9 with(fail)
     clear c1;refine Ff 10 1 (FW w.heap.size wr.heap.size gu ou ix k rc un uc qn qc mn mc ro qo mo y0 y1 y2 y3 bb) (by kernel_rfl) rfl (Zyc w.heap.size wr.heap.size gu ou ix k rc un uc qn qc mn mc ro qo mo y0 y1 y2 y3 bb) (jD (by kernel_rfl)) (Fe (by kernel_rfl)) (iV (by kernel_rfl)) (Fg (by kernel_rfl)) ?hs ?he
     case hs =>
      intro i o aT hi listed a' w' H bA aU;have hb:=I H.below;obtain⟨t',df⟩:=a';obtain⟨f',rfl,-⟩:=Z4r t' H.tsize;obtain rfl:df=[]:=H.defers;have cG:f' 1 = .pointer (some ⟨w.heap.size,0,none⟩):=bA 1 (gK (by kernel_rfl));have bY:f' 4 = .int .i64 (ix:Nat):=bA 4 (gK (by kernel_rfl));have cD:f' 5 = .slice ro k rc:=bA 5 (gK (by kernel_rfl));have dP:f' 6 = .int .i64 (k:Nat):=bA 6 (gK (by kernel_rfl));have aA:=H.hC aU;clear aU H bA;have bP:i=0\/i=1\/i=2\/i=3\/i=4\/i=5\/i=6\/i=7\/i=8\/i=9:=en i aT;clear aT;rcases bP with rfl | rfl | rfl | rfl | rfl | rfl | rfl | rfl | rfl | rfl<;>obtain rfl:=bF hi;rw[cD]
      rotate_left
      rw[cG];have hx:=bZ.o w' hb.o;obtain⟨c0,c1,c2⟩:=hx.c3;clear hx
      rotate_left
      rw[cG]
      rotate_left
      rw[show f' 26=_ from aA 2 26 rfl];have c2:=(bZ.o w' hb.o).cell 2 _ rfl
      rotate_left
      rw[bY]
      rotate_left
      rw[show f' 27=_ from aA 3 27 rfl,show f' 28=_ from aA 4 28 rfl];have ii:=mH.o
      rotate_left
      rw[show f' 29=_ from aA 5 29 rfl];obtain⟨p0,p1,p2,p3⟩:=Ds.o w' hb.o
      rotate_left
      rw[dP]
      rotate_left
      ·have fY:f' 25=_:=aA 1 25 rfl
       have iL:f' 30=_:=aA 6 30 rfl;have jA:f' 31=_:=aA 7 31 rfl;clear aA;rw[fY,iL,jA];clear fY iL jA cG bY cD dP;refine aP rfl ?_
       go_wp2_with fail
       refine(rH.o w' hb.o).mono ?_;rintro e w4 ⟨rfl,b4⟩;have bC:=I b4;clear b4
       go_wp2_with fail
       exact aI ⟨_,rfl,bC.o,rfl⟩
      ·have fE:f' 32=_:=aA 8 32 rfl
       clear aA;rw[fE];clear fE cG bY cD dP;have bx:=bwA w' (.cells #[.bool bb] 4);have HV:=hnw w' 4 [.bool bb];have BX:=I bx;clear bx;refine aP rfl ?_
       go_wp2_with fail
       exact aI ⟨_,rfl,BX.o,w'.heap.size,rfl,hb.o.size,HV.o⟩
      all_goals clear aA cG bY cD dP
      all_goals (refine aP rfl ?_;go_wp2_with fail;exact aI ⟨_,rfl,aG _ _,rfl⟩)
     case he =>
      intro listed a' w4 H bA aD;have rC:=H.done 0 _ 24 rfl (aD 0 (by decide)) rfl;have pJ:=H.done 9 _ 33 rfl (aD 9 (by decide)) rfl;have aK:=I H.below;obtain⟨zf,hz,rfl⟩:=H.actNz bA [24,25,26,27,28,29,30,31,32,33] (Fh (by kernel_rfl));rw[hz] at rC pJ;clear H aD bA hz;simp only[fcL,fnL,Act.put,sbT,scS,scZ];rw[show zf 24=_ from rC];clear rC;obtain⟨V,e9,hV0,hV⟩:=pJ;rw[e9];clear e9;have O7:=I (O6.o.below aK.o);have W7:=W6.tr aK.o;have B7:=B6.tr aK.o;have S7:=S6.st aK.o;have X7:=X6.st aK.o;have R7:=I (R6.o.step aK.o);have HV:=I hV;have mA:Hid (wo.heap.size<=w4.heap.size/\w.heap.size+1<wo.heap.size/\T<wo.heap.size):=I ⟨W7.o.size,by have:=AN.o;have:=fA.o;omega,AN.o⟩;clear aK hV hV0 O6 W6 B6 S6 X6 R6 Ds bZ rH;refine nE (aP rfl ?_);refine Z02 87 4 (.bool false) 1 1 Tryz.underlying87 Zui rfl (by omega) (by omega) w4 wo.heap.size rfl (.tmp 24) (.tmp 33) rfl ro rc k PR ?q1 O7.o mA.o.1 V 1 1 [.bool bb] 4 ?q2 HV.o rfl (by omega) ?q3 (by omega) ?_
      case q1=>rfl
      case q2=>rfl
      case q3=>simp[Value.oneCell']
      intro g5 off5 c5 wa o8 aX;have O8:=I o8;have W8:=I (W7.o.trans (qa O7.o aX mA.o.1));have B8:=I (B7.o.trans ((qa O7.o aX mA.o.1).mono B4.o.size));have S8:=I (S7.o.grownBy aX (fun e=>by have:=(O7.o.blk_lt e).1;have:=mA.o;omega));have X8:=I (X7.o.grownBy aX (fun e=>by have:=(O7.o.blk_lt e).1;have:=mA.o;omega));have R8:=I (R7.o.grownBy aX (fun e=>by have:=(O7.o.blk_lt e).1;have:=mA.o;omega));clear o8 aX O7 W7 B7 S7 X7 R7 HV
      go_wp2_with fail
      refine aI (nE (aP rfl ?_))
      go_wp2_with fail
      refine aI (vM ?_)
      go_wp2_with fail
      go_roundw
      case rel=>exact⟨k+1,some ⟨g5,off5,none⟩,c5,by go_num,by omega,rfl,I (by rw[<- cU.o];exact O8.o),W8,B8,S8,X8,R8⟩
      case measure=>simp only[intOf];omega
    ·have kk:¬ (k:Int)<mn:=by omega
     obtain rfl:mn=k:=by omega
     have E6:Hid (BlE wr (fun g=>wo.heap.size<=g) RW [.slice ro mn rc]):=I (XF (by have:=O6.o;rwa [List.take_of_length_le (by rw[eX.o];exact aO _)] at this) eX.o.symm _ (fun g hg=>hg));have L6:Hid (T+1<=wo.heap.size/\T+1<=wr.heap.size):=I (by have:=AN.o;have:=W6.o.size;omega);have M6:=I (M4.o.step BlE.keeps W6.o);clear O6 rH Cj M4;have a3:=S6.o.cell 3 _ rfl
     go_upto_region 10 with(fail)
     clear c1
     go_wp2_with (at_builtin;refine jM 86 87 (.slice none 0 0) 1 24 Tryz.underlying86 Hr rfl (by omega) (by omega) wr (T+1) rfl (.tmp 36) (.tmp 38) rfl co cc ix vss.flatten ?t1 M6.o.own ?t5 1 1 #[.slice ro mn rc] 87 ?t2 rfl (by omega) ?t3 ?t4 ?_;(case t1=>rfl);(case t5=>exact L6.o.2);(case t2=>rfl);(case t3=>intro u hu;simp at hu;subst hu;rfl);(case t4=>omega);intro g5 off5 c5 wa o8 aX b8 bW;have Cl:Hid (T+1<=g5):=I (o8.blk_lt (g:=g5) rfl).1;have M8:=I (RowM.add BlE.keeps M6.o lK.o L6.o.1 (fun g hg=>by have:=L6.o;omega) E6.o rfl o8 aX bW);have S8:=I (S6.o.grownBy aX (fun e=>by have:=(M6.o.own.blk_lt e).1;omega));have X8:=I (X6.o.grownBy aX (fun e=>by have:=(M6.o.own.blk_lt e).1;have:=fA.o;omega));have R8:=I (R6.o.grownBy aX (fun e=>by have:=(M6.o.own.blk_lt e).1;have:=fA.o;omega));have B8:=I (B6.o.trans (b8.mono (by have:=fA.o;omega)));have t3:=S8.o.cell 3 _ rfl;have tf:=S8.o.warm 3;clear a3 o8 aX b8 bW)
     clear t3 tf;have on:=(Only.refl wa (· = T)).setCell (a:=⟨T,3,none⟩) (.slice (some ⟨g5,off5,none⟩) (ix+1) c5) rfl;have S9:=I (S8.o.set 3 (.slice (some ⟨g5,off5,none⟩) (ix+1) c5));have M9:=I (RowM.turn BlE.keeps M8.o on (fun g hg=>.inl hg) (fun g hg e=>by have:=Cl.o;have h:g5=g:=bF hg;omega));have X9:=I (X8.o.only on (fun e=>by have:=fA.o;omega));have R9:=I (R8.o.only on (fun e=>by have:=fA.o;omega));have B9:=I (Only.later B8.o on (fun g hg=>by have:=fA.o;omega));clear on S8 M8 X8 R8 B8;go_roundw
     case rel=>exact⟨ix+1,some ⟨g5,off5,none⟩,c5,vss++[[.slice ro mn rc]],by go_num,by omega,S9,I (by rw[Uy.o];exact M9.o),X9,R9,B9⟩
     case measure=>simp only[intOf];omega
  ·have ii:¬ (ix:Int)<un:=by omega
   obtain rfl:un=ix:=by omega
   have cA:Hid (CF.length=un):=I (by rw[lT.o,eB,dZ.o])
   go_upto_region 11 with(fail)
   clear c2
   go_wp2_with (first | (refine wpList_load_row rfl 137 (.tmp 3) rfl (T) ?xt 137 #[.slice qo qn qc,.slice mo mn mc,.slice uo un uc,.slice co un cc] (0,0) _ S4.o Tryz.underlying137 rfl (pD _ _ _ _) ?_;(case xt=>rfl)) | (refine sG rfl 137 (.tmp 2) (.tmp 41) rfl (w.heap.size+1) #[.slice qo qn qc,.slice mo mn mc,.slice uo un uc,.slice co un cc] (by rfl) (by rfl) 137 _ R4.o (pD _ _ _ _) rfl (by simp[Value.oneCell']) ?_;intro Nf s9 u9;have Kh:=I s9;have Ha:=I u9;clear s9 u9))
   have mV:Hid (lY Nf CF co):=I (by
    have h:=(M4.o.turn BlE.keeps (Ha.o.only (p:=(· = w.heap.size+1)) rfl) (fun g hg=>.inr (by have:=fA.o;omega)) (fun g hg e=>by have:=(M4.o.own.blk_lt hg).1;have:=fA.o;omega)).rowsB
    rwa [List.take_of_length_le (by rw[cA.o];exact aO _)] at h)
   have Rr:=I (Ha.o.below B4.o (by omega));exact bodyPost_ret (results_cell_row (p:=2) (by kernel_rfl) _ _ (w.heap.size+1) 137 #[.slice qo qn qc,.slice mo mn mc,.slice uo un uc,.slice co un cc] (0,0) _ rfl Kh.o Tryz.underlying137 rfl (pD _ _ _ _)) rfl ⟨⟨_,rfl,Tv.o _ co cc Rr.o mV.o cA.o⟩,Rr.o⟩
end
section
open Go.RowKit Go.Sort Go.Maps
theorem FY(t:Array Value)(h:t.size=58):∃ f:Nat->Value,t=#[f 0,f 1,f 2,f 3,f 4,f 5,f 6,f 7,f 8,f 9,f 10,f 11,f 12,f 13,f 14,f 15,f 16,f 17,f 18,f 19,f 20,f 21,f 22,f 23,f 24,f 25,f 26,f 27,f 28,f 29,f 30,f 31,f 32,f 33,f 34,f 35,f 36,f 37,f 38,f 39,f 40,f 41,f 42,f 43,f 44,f 45,f 46,f 47,f 48,f 49,f 50,f 51,f 52,f 53,f 54,f 55,f 56,f 57]/\∀ d,t.getD d undef=f d:=by
 obtain⟨l⟩:=t;have hl:l.length=58:=h
 have e:l=(List.range 58).map (fun i=>l.getD i undef):=by
  apply List.ext_getElem
  ·simp[hl]
  ·intro i h1 h2
   simp[List.getD,h1]
 exact⟨fun i=>l.getD i undef,congrArg List.toArray e,fun d=>by simp⟩
def FZ(TB T WS gc oc ix cn cc':Nat)(co' bo:Option Addr)(mn bc kc:Nat)(i:Nat)(W:World)(v:Value):Prop:=match i with
 | 0=>v = .pointer (some ⟨T,3,none⟩)
 | 1=>v = .slice co' ix kc
 | 2=>v = .pointer (some ⟨TB,3,none⟩)
 | 3=>v = .slice (some ⟨gc,oc,none⟩) cn cc'
 | 4=>v = .int .i64 (ix:Nat)
 | 5=>v = .pointer (some ⟨gc,oc+ix,none⟩)
 | 6=>v = .slice bo mn bc
 | 7=>∃ V,v = .slice (some ⟨V,0,none⟩) 1 1/\aC W V 87 [.slice bo mn bc]
 | 8=>True
 | 9=>v = .pointer (some ⟨T,3,none⟩)
 | _=>True
theorem Zye(TB T WS gc oc ix cn cc':Nat)(co' bo:Option Addr)(mn bc kc:Nat):∀ i w w' v,FZ TB T WS gc oc ix cn cc' co' bo mn bc kc i w v->Below w.heap.size w w'->FZ TB T WS gc oc ix cn cc' co' bo mn bc kc i w' v:=by
 intro i w w' v h hb
 match i with
 | 0=>exact h
 | 1=>exact h
 | 2=>exact h
 | 3=>exact h
 | 4=>exact h
 | 5=>exact h
 | 6=>exact h
 | 7=>obtain⟨V,h1,h3⟩:=h;exact⟨V,h1,h3.step hb⟩
 | 8=>trivial
 | 9=>exact h
 | k+10=>trivial
theorem ZO {ops:Array Oper} {rest:List Oper} {o:Oper} {a:Act} {Q:Exit->Act->World->Prop} (T E:TypeId) (z:Value) (k bt:Nat)
  (hT:Tryz.prog.underlying T=some (.slice E)) (hE:(Tryz.prog.info? E).map (fun i=>(i.zero,i.size,i.bytes))=some (some z,k,bt)) (hz:z.cells.size=k) (hk:0<k) (mW:bt<=1000)
  (w:World) (B:Nat) (hg:o.guard=none) (s x:Operand) (jP:o.op=Op.call { callee:=Callee.builtin Builtin.append,args:=#[s,x],argTypes:=#[T,T] })
  (ao:Option Addr) (cap n:Nat) (xs:List Value) (hs:a.eval s = .slice ao n cap) (hO:OwnK w B k n cap xs ao) (hB:B<=w.heap.size)
  (A m c:Nat) (cs:List Value) (te:TypeId) (hx:a.eval x = .slice (some ⟨A,0,none⟩) m c) (hA:aC w A te cs) (hm:cs.length=m*k) (cN:0<m) (h1c:∀ u∈cs,u.oneCell'=true)
  (b1:n+m<=1000000000)
  (hK:∀ g off cap' w',OwnK w' B k (n+m) cap' (xs++cs) (some ⟨g,off,none⟩)->w.grownBy w' (blk ao)->(blk ao=some g\/w.heap.size<=g)->wpList Tryz.prog ops Q rest (a.put o.dst (.slice (some ⟨g,off,none⟩) (n+m) cap')) w') :
  wpList Tryz.prog ops Q (o::rest) a w:=by
 obtain⟨i0,hi,Cn,nP,pH⟩:=eq hE;exact FU w B k hk hg s x T jP E i0 z bt hT hi Cn nP pH hz ao cap xs n hs hO hB ⟨A,0,none⟩ m c cs hx hm cN (fun j u hj=>hA.addr j u hj) h1c (by simp only[maxLen];omega) (dQ (Nat.mul_le_mul b1 mW) (by decide)) hK
theorem Zuj{c:Crw}{C:List (List Bool)}{u m i:Nat}(h:i≠u):(bV c C u m)[i]?=C[i]?:=by unfold bV;rw[List.getElem?_set_ne (fun e=>h e.symm)]
theorem Z04{c:Crw}{C:List (List Bool)}{u m:Nat}(h:u<C.length):(bV c C u m)[u]?=some ((List.replicate c.ms.length false).set m ((C.getD u []).getD m false)):=by unfold bV;rw[List.getElem?_set_self h]
theorem ZP{α:Type}{l:List α}{i:Nat}{x:α}(h:l[i]?=some x):l.take (i+1)=l.take i++[x]:=by rw[lN,h];rfl
def kV(w:World)(D:Nat->Prop)(rows:List (List Bool))(ao:Option Addr):Prop:=rows=[]\/∃ g off,ao=some ⟨g,off,none⟩/\g<w.heap.size/\¬ D g/\∀ i row,rows[i]?=some row->∃ bo bc,w.cell? ⟨g,off+i,none⟩=some (.slice bo row.length bc)/\(row=[]\/∃ g2 o2,bo=some ⟨g2,o2,none⟩/\g2<w.heap.size/\¬ D g2/\dD w g2 o2 (row.flatMap lO))
theorem lY.rowsD{w:World}{rows:List (List Bool)}{ao:Option Addr}(h:lY w rows ao){D:Nat->Prop}(hD:∀ g,g<w.heap.size->¬ D g):kV w D rows ao:=by
 rcases h with h | ⟨g,off,h1,h2,h3⟩
 ·exact .inl h
 ·refine .inr ⟨g,off,h1,h2,hD g h2,fun i row hi=>?_⟩
  obtain⟨bo,bc,h4,h5⟩:=h3 i row hi;refine⟨bo,bc,h4,?_⟩;rcases h5 with h5 | ⟨g2,o2,h6,h7,h8⟩
  ·exact .inl h5
  ·exact .inr ⟨g2,o2,h6,h7,hD g2 h7,h8⟩
theorem kV.rowsB{w:World}{D:Nat->Prop}{rows:List (List Bool)}{ao:Option Addr}(h:kV w D rows ao):lY w rows ao:=by
 rcases h with h | ⟨g,off,h1,h2,-,h3⟩
 ·exact .inl h
 ·refine .inr ⟨g,off,h1,h2,fun i row hi=>?_⟩
  obtain⟨bo,bc,h4,h5⟩:=h3 i row hi;refine⟨bo,bc,h4,?_⟩;rcases h5 with h5 | ⟨g2,o2,h6,h7,-,h8⟩
  ·exact .inl h5
  ·exact .inr ⟨g2,o2,h6,h7,h8⟩
theorem kV.only{w w':World}{D D' p:Nat->Prop}{rows:List (List Bool)}{ao:Option Addr}(h:kV w D rows ao)(on:Only w w' p)(hp:∀ g,g<w.heap.size->p g->D g)(hD:∀ g,g<w.heap.size->D' g->D g):kV w' D' rows ao:=by
 rcases h with h | ⟨g,off,h1,h2,h3,h4⟩
 ·exact .inl h
 ·refine .inr ⟨g,off,h1,gR h2 on.size,fun e=>h3 (hD g h2 e),fun i row hi=>?_⟩
  obtain⟨bo,bc,h5,h6⟩:=h4 i row hi;refine⟨bo,bc,by rw[rJ (w:=w) (a:=⟨g,off+i,none⟩) (on.block g h2 (fun e=>h3 (hp g h2 e)))];exact h5,?_⟩;rcases h6 with h6 | ⟨g2,o2,h7,h8,h9,Pm⟩
  ·exact .inl h6
  ·exact .inr ⟨g2,o2,h7,gR h8 on.size,fun e=>h9 (hD g2 h8 e),Pm.of_block (on.block g2 h8 (fun e=>h9 (hp g2 h8 e)))⟩
theorem RowM.rowsD{base lo n cp:Nat}{w:World}{bad D:Nat->Prop}{ao:Option Addr}{rows:List (List Bool)}{vss:List (List Value)}(h:RowM BlE 1 base w lo bad ao n cp rows vss)(hD:∀ g,D g->bad g)(fI:∀ g,D g->g<lo):kV w D rows ao:=by
 rcases Nat.eq_zero_or_pos rows.length with h0 | h0
 ·exact .inl (List.eq_nil_of_length_eq_zero h0)
 ·obtain⟨g,off,vs,h1,h2,hl,-⟩:=h.at 0 rows[0] (aL h0)
  refine .inr ⟨g,off,h1,h2,fun e=>by have:=fI g e;omega,fun i row hi=>?_⟩;obtain⟨g',off',vs',kM,Pn,-,-,-,Cb,bo,bc,rfl,h5⟩:=h.at i row hi;rw[h1] at kM;cases kM;have:=Cb 0 _ rfl;rw[Nat.mul_one,Nat.add_zero] at this;refine⟨bo,bc,this,?_⟩;rcases h5 with h6 | ⟨g2,off2,h6,hp,h7,h8⟩
  ·exact .inl h6
  ·exact .inr ⟨g2,off2,h6,h7,fun e=>hp.2.1 (hD g2 e),h8⟩
theorem Z05{w W:World}{row:List Bool}{bo:Option Addr}{bc:Nat}{D:Nat->Prop}(h:row=[]\/∃ g2 o2,bo=some ⟨g2,o2,none⟩/\g2<w.heap.size/\¬ D g2/\dD w g2 o2 (row.flatMap lO))(hb:Below w.heap.size w W)(P:Nat->Prop)(hP:∀ g,g<w.heap.size->¬ D g->P g):BlE W P row [.slice bo row.length bc]:=by
 refine⟨bo,bc,rfl,?_⟩;rcases h with h | ⟨g,off,h1,h2,hd,h3⟩
 ·exact .inl h
 ·exact .inr ⟨g,off,h1,hP g h2 hd,gR h2 hb.size,h3.of_block (hb.block g h2)⟩
theorem qb(w:World)(c:Crw)(C:List (List Bool))(qo mo uo co:Option Addr)(qc mc uc cc:Nat)(D:Nat->Prop)(hD:∀ g,D g->g<w.heap.size)(rO:kV w D C co)(hC:∀ r∈C,r.length=c.ms.length)(uV:C.length<=1000)(Dr:c.ms.length<=1000)(u m:Nat)(hu:u<C.length)(hm:m<c.ms.length) :
  Calls Tryz.prog 115 #[.agg #[.slice qo c.qs.length qc,.slice mo c.ms.length mc,.slice uo c.us.length uc,.slice co C.length cc],.int .i64 (u:Nat),.int .i64 (m:Nat)] w fun e w'=>(∃ co' cc',e = .returned (.agg #[.slice qo c.qs.length qc,.slice mo c.ms.length mc,.slice uo c.us.length uc,.slice co' C.length cc'])/\kV w' D (bV c C u m) co')/\Below w.heap.size w w':=by
 have mV:Hid (∀ i row,C[i]?=some row->∃ g off bo bc,co=some ⟨g,off,none⟩/\g<w.heap.size/\w.cell? ⟨g,off+i,none⟩=some (.slice bo row.length bc)/\(row=[]\/∃ g2 o2,bo=some ⟨g2,o2,none⟩/\g2<w.heap.size/\¬ D g2/\dD w g2 o2 (row.flatMap lO))):=I (fun i row hi=>by
  rcases rO with h | ⟨g,off,h1,h2,-,h3⟩
  ·rw[h] at hi;simp at hi
  ·obtain⟨bo,bc,h4,h5⟩:=h3 i row hi
   exact⟨g,off,bo,bc,h1,h2,h4,h5⟩)
 have Ju:=I hD;have Z8:Hid (∀ (i:Nat) (r:List Bool),C[i]?=some r->r.length=c.ms.length):=I (fun i (r:List Bool) hi=>hC r (bU hi));have zA:=I (EX c C u m);have AO:=I (fun i (hi:i≠u)=>Zuj (c:=c) (C:=C) (m:=m) hi);have Uz:=I (Z04 (c:=c) (m:=m) hu);have Mh:Hid (∃ r,C[u]?=some r/\(C.getD u [])=r):=I ⟨_,aL hu,by rw[bR,aL hu];rfl⟩;clear rO hC hD;obtain⟨FX,hFX⟩:=exq (bV c C u m);rw[hFX] at zA Uz ⊢;have AO:Hid (∀ i,i≠u->FX[i]?=C[i]?):=I (fun i hi=>by rw[<- hFX];exact AO.o i hi);clear hFX;obtain⟨cn,dW⟩:=exq (C.length);rw[dW] at zA uV hu ⊢;have cA:=I dW;generalize c.qs.length=qn at *;generalize c.ms.length=mn at *;generalize c.us.length=un at *;clear dW;obtain⟨X1,R1,B1,mQ⟩:=ZN w 137 137 [.slice qo qn qc,.slice mo mn mc,.slice uo un uc,.slice co cn cc] [.slice none 0 0,.slice none 0 0,.slice none 0 0,.slice none 0 0];have X1:=I X1;have R1:=I R1;have B1:=I B1
 go_enter Tryz.func115,Tryz.ntmps115
 go_upto_region 1 with(fail)
 have zO:=I mQ;clear mQ;generalize (w.alloc (.cells #[.slice qo qn qc,.slice mo mn mc,.slice uo un uc,.slice co cn cc] 137)).alloc (.cells #[.slice none 0 0,.slice none 0 0,.slice none 0 0,.slice none 0 0] 137)=w1 at *;have O1:=hnw w1 137 [.slice none 0 0,.slice none 0 0,.slice none 0 0,.slice none 0 0];have BO:=I (bwA w1 (.cells #[.slice none 0 0,.slice none 0 0,.slice none 0 0,.slice none 0 0] 137));obtain⟨c0,c1,c2⟩:=X1.o.c3
 go_upto_region 2 with(refine sG rfl 137 (.tmp 7) (.tmp 12) rfl w1.heap.size #[.slice qo qn qc,.slice mo mn mc,.slice uo un uc,.slice none 0 0] (by rfl) (by rfl) 137 _ O1.o (pD _ _ _ _) rfl (by simp[Value.oneCell']) ?_;intro w9 s9 u9;have S9:=I s9;have U9:=I u9;clear s9 u9)
 clear c0 c1 c2;have A9:=I (U9.o.below BO.o (aO _));have S9:Hid (aC w9 w1.heap.size 137 [.slice qo qn qc,.slice mo mn mc,.slice uo un uc,.slice none 0 0]):=I S9.o;have X9:=X1.st A9.o;have R9:=I (R1.o.step A9.o);have L9:=B1.tr A9.o;obtain⟨T,hT⟩:=exq (w1.heap.size);rw[hT] at S9 ⊢;have fA:Hid (T=w.heap.size+2):=I (by rw[<- hT];exact zO.o);clear O1 BO U9 X1 R1 B1 A9 hT zO;have M9:Hid (RowM BlE 1 0 w9 (T+1) (fun g=>g=T\/g=w.heap.size+1\/D g) none 0 0 (FX.take 0) []):=I (by rw[List.take_zero];exact RowM.nil _ _ _)
 go_upto_region 3 with(fail)
 go_loopw [8] (fun iv wr=>∃ (i:Nat) (co':Option Addr) (kc:Nat) (vss:List (List Value)),iv = .int .i64 i/\i<=cn/\Hid (aC wr T 137 [.slice qo qn qc,.slice mo mn mc,.slice uo un uc,.slice co' i kc])/\Hid (RowM BlE 1 0 wr (T+1) (fun g=>g=T\/g=w.heap.size+1\/D g) co' i kc (FX.take i) vss)/\Hid (aC wr w.heap.size 137 [.slice qo qn qc,.slice mo mn mc,.slice uo un uc,.slice co cn cc])/\Hid (aC wr (w.heap.size+1) 137 [.slice none 0 0,.slice none 0 0,.slice none 0 0,.slice none 0 0])/\Hid (Below w.heap.size w wr)) (fun i _=>(cn-intOf i).toNat)
 case atStart=>exact⟨0,none,0,[],rfl,by omega,S9,M9,X9,R9,L9⟩
 case round =>
  clear S9 M9 X9 R9 L9;obtain⟨ix,co',kc,vss,rfl,hi,S4,M4,X4,R4,B4⟩:=hrel;have e2:=w1i ix (by omega);have c3:=X4.o.cell 3 _ rfl;by_cases aE:ix<cn
  ·have ii:(ix:Int)<cn:=by omega
   have mH:=I ii;obtain⟨row,aS⟩:∃ r,C[ix]?=some r:=⟨_,aL (by rw[cA.o];exact aE)⟩;have eX:=I (Z8.o ix row aS);obtain⟨gc,oc,bo,bc,iE,mU,dG,jZ⟩:=mV.o ix row aS;rw[eX.o] at dG;have oE:=I (fun W (hW:Below w.heap.size w W)=>(hW.cell (p:=⟨gc,oc+ix,none⟩) mU).trans dG);have Vh:=I (fun W (hW:Below w.heap.size w W) P (hP:∀ g,g<w.heap.size->¬ D g->P g)=>Z05 (bc:=bc) jZ hW P hP);rw[eX.o] at Vh;have Cm:Hid (aY lO w bo row):=I (by rcases jZ with h | ⟨g2,o2,h1,h2,-,h3⟩;exact .inl h;exact .inr ⟨g2,o2,h1,h2,h3⟩);have lK:Hid (∀ g,blk co'=some g->T+1<=g/\g<wr.heap.size):=I (fun g hg=>M4.o.own.blk_lt hg);have Dt:=I S4.o.lt;subst iE;clear mU dG jZ;by_cases tO:ix=u
   ·subst tO
    have q0:((ix:Int) != (ix:Int))=false:=by simp
    obtain⟨xb,Qe⟩:=exq (row.getD m false)
    have AP:Hid ((C.getD ix []).getD m false=xb):=I (by
     rw[<- Qe,bR (l:=C),aS];rfl)
    have rW:Hid (FX.take (ix+1)=FX.take ix++[(List.replicate mn false).set m xb]):=I (by rw[ZP Uz.o,AP.o])
    have tS:m<row.length:=by rw[eX.o];exact hm
    obtain⟨g2,o2,dE,qF,eK⟩:=Cm.o.at Su m row[m] (aL tS)
    have y0:w.cell? ⟨g2,o2+m,none⟩=some (.bool xb):=by
     have h:=eK 0 _ rfl;rw[Nat.mul_one,Nat.add_zero] at h;rw[h,<- Qe,bR,aL tS];rfl
    have wS:=I (fun W (hW:Below w.heap.size w W)=>(hW.cell (p:=⟨g2,o2+m,none⟩) qF).trans y0);subst dE;clear eK y0 qF Qe aS Vh Cm;have y1:=oE.o wr B4.o
    have mm:(m:Int)<(mn:Nat):=by omega
    have gW:=run_make_row' (P:=Tryz.prog) 87 4 (.bool false) 1 Tryz.underlying87 Kx rfl .i64 .i64 mn (by omega) (by omega);rw[Vv] at gW;have V5:=I (aC.new wr 4 (bvs (List.replicate mn false)));have bx:=(bwA wr (.cells (bvs (List.replicate mn false)).toArray 4));have BX:=I bx;clear bx
    go_upto_region 8 with(fail)
    clear gW c3 y1 q0;have c3:=(X4.o.step BX.o).cell 3 _ rfl;have y1:=oE.o _ (B4.o.trans (BX.o.mono B4.o.size));have y2:=wS.o _ (B4.o.trans (BX.o.mono B4.o.size));have v0:=V5.o.cell m _ (show(bvs (List.replicate mn false))[m]?=some (.bool false) by unfold bvs;rw[dK,List.getElem?_replicate,if_pos hm];rfl);have vf:=V5.o.warm m
    have Xz:(bvs (List.replicate mn false)).set m (.bool xb)=bvs ((List.replicate mn false).set m xb):=by unfold bvs;rw[List.map_set]
    generalize wr.alloc (.cells (bvs (List.replicate mn false)).toArray 4)=w5 at *;have V6:Hid (aC (w5.setCell ⟨wr.heap.size,m,none⟩ (.bool xb)) wr.heap.size 4 (bvs ((List.replicate mn false).set m xb))):=I (by rw[<- Xz];exact V5.o.set m _);have BW:=I (BX.o.setCell (p:=⟨wr.heap.size,m,none⟩) (aO _) (.bool xb));have S6:=S4.st BW.o;have X6:=X4.st BW.o;have R6:=I (R4.o.step BW.o);have B6:=B4.tr BW.o;have M6:=I (M4.o.step BlE.keeps BW.o);clear V5 S4 X4 R4 M4 BX Xz BW
    go_upto_region 9 with(fail)
    clear c3 y1 y2 v0 vf;generalize w5.setCell ⟨wr.heap.size,m,none⟩ (.bool xb)=w6 at *;obtain⟨V,hVV⟩:=exq (wr.heap.size);rw[hVV] at V6 lK Dt ⊢;have rS:Hid (w.heap.size<=V):=I (by rw[<- hVV];exact B4.o.size);clear hVV B4;have s3:=S6.o.cell 3 _ rfl;have tT:Hid (((List.replicate mn false).set m xb).length=mn):=I (by rw[List.length_set,List.length_replicate])
    have E6:Hid (BlE w6 (fun g=>0<=g/\¬ (g=T\/g=w.heap.size+1\/D g)/\blk co'≠some g) ((List.replicate mn false).set m xb) [.slice (some ⟨V,0,none⟩) mn mn]):=I (by
     have hh:=XG (cap:=mn) V6.o (fun g=>0<=g/\¬ (g=T\/g=w.heap.size+1\/D g)/\blk co'≠some g) ⟨Nat.zero_le _,fun e=>by have:=Dt.o;have:=rS.o;have:=fA.o;rcases e with e | e | e;omega;omega;have:=Ju.o V e;omega,fun e=>by have:=lK.o V e;omega⟩
     rwa [tT.o] at hh)
    have jG:Hid (T+1<=w6.heap.size):=I (by have:=V6.o.lt;have:=Dt.o;omega)
    go_wp2_with (at_builtin;refine jM 86 87 (.slice none 0 0) 1 24 Tryz.underlying86 Hr rfl (by omega) (by omega) w6 (T+1) rfl (.tmp 52) (.tmp 54) rfl co' kc ix vss.flatten ?t1 M6.o.own ?t5 1 1 #[.slice (some ⟨V,0,none⟩) mn mn] 87 ?t2 rfl (by omega) ?t3 ?t4 ?_;(case t1=>rfl);(case t5=>exact jG.o);(case t2=>rfl);(case t3=>intro u hu;simp at hu;subst hu;rfl);(case t4=>omega);intro g5 off5 c5 wa o8 aX b8 bW;have Cl:Hid (T+1<=g5):=I (o8.blk_lt (g:=g5) rfl).1;have M8:=I (RowM.addS BlE.keeps M6.o E6.o rfl o8 aX bW);have S8:=I (S6.o.grownBy aX (fun e=>by have:=lK.o _ e;omega));have X8:=I (X6.o.grownBy aX (fun e=>by have:=lK.o _ e;have:=fA.o;omega));have R8:=I (R6.o.grownBy aX (fun e=>by have:=lK.o _ e;have:=fA.o;omega));have B8:=I (B6.o.trans (b8.mono (by have:=fA.o;omega)));have t3:=S8.o.cell 3 _ rfl;have tf:=S8.o.warm 3;clear s3 o8 aX b8 bW)
    clear t3 tf;have on:=(Only.refl wa (· = T)).setCell (a:=⟨T,3,none⟩) (.slice (some ⟨g5,off5,none⟩) (ix+1) c5) rfl;have S9:=I (S8.o.set 3 (.slice (some ⟨g5,off5,none⟩) (ix+1) c5));have M9:=I (RowM.turn BlE.keeps M8.o on (fun g hg=>.inl (.inl hg)) (fun g hg e=>by have:=Cl.o;have h:g5=g:=bF hg;omega));have X9:=I (X8.o.only on (fun e=>by have:=fA.o;omega));have R9:=I (R8.o.only on (fun e=>by have:=fA.o;omega));have B9:=I (Only.later B8.o on (fun g hg=>by have:=fA.o;omega));clear on S8 M8 X8 R8 B8;go_roundw
    case rel=>exact⟨ix+1,some ⟨g5,off5,none⟩,c5,vss++[[.slice (some ⟨V,0,none⟩) mn mn]],by go_num,by omega,S9,I (by rw[rW.o];exact M9.o),X9,R9,B9⟩
    case measure=>simp only[intOf];omega
   ·have q0:((ix:Int) != (u:Int))=true:=by simp;omega
    have rW:Hid (FX.take (ix+1)=FX.take ix++[row]):=I (ZP (by rw[AO.o ix tO];exact aS));have mY:=I (fun W (hW:Below wr.heap.size wr W)=>S4.o.step hW);have bZ:=I (fun W (hW:Below wr.heap.size wr W)=>X4.o.step hW);have oE:=I (fun W (hW:Below wr.heap.size wr W)=>oE.o W (B4.o.trans (hW.mono B4.o.size)));clear aS Cm
    go_upto_region 6 with(fail)
    clear c3 q0;refine O_ 8 (FZ w.heap.size T wr.heap.size gc oc ix cn cc co' bo mn bc kc) (by kernel_rfl) rfl (Zye w.heap.size T wr.heap.size gc oc ix cn cc co' bo mn bc kc) (N_ (by kernel_rfl)) (P_ (by kernel_rfl)) (iV (by kernel_rfl)) (RM (by kernel_rfl)) (RM (by kernel_rfl)) ?hs ?hA ?hB
    case hs =>
     intro i o aT hi listed a' w' H bA aU;have hb:=I H.below;obtain⟨t',df⟩:=a';obtain⟨f',rfl,-⟩:=FY t' H.tsize;obtain rfl:df=[]:=H.defers;have bB:f' 3 = .pointer (some ⟨w.heap.size,0,none⟩):=bA 3 (CZ (by kernel_rfl));have cZ:f' 7 = .pointer (some ⟨T,0,none⟩):=bA 7 (CZ (by kernel_rfl));have nQ:f' 8 = .int .i64 (ix:Nat):=bA 8 (CZ (by kernel_rfl));have aA:=H.hD aU;clear aU H bA;have bP:=Zqt i aT;clear aT;rcases bP with rfl | rfl | rfl | rfl | rfl | rfl | rfl | rfl | rfl<;>obtain rfl:=bF hi;rw[cZ]
     rotate_left
     rw[show f' 23=_ from aA 0 23 rfl rfl rfl];have c3:=(mY.o w' hb.o).cell 3 _ rfl
     rotate_left
     rw[bB]
     rotate_left
     rw[show f' 25=_ from aA 2 25 rfl rfl rfl];have c3:=(bZ.o w' hb.o).cell 3 _ rfl
     rotate_left
     rw[nQ]
     rotate_left
     rw[show f' 26=_ from aA 3 26 rfl rfl rfl,show f' 27=_ from aA 4 27 rfl rfl rfl];have ii:=mH.o
     rotate_left
     rw[show f' 28=_ from aA 5 28 rfl rfl rfl];have p0:=oE.o w' hb.o
     rotate_left
     ·have iL:f' 29=_:=aA 6 29 rfl rfl rfl
      clear aA;rw[iL];clear iL bB cZ nQ;have bx:=bwA w' (.cells #[.slice bo mn bc] 87);have HV:=hnw w' 87 [.slice bo mn bc];have BX:=I bx;clear bx;refine aP rfl ?_
      go_wp2_with fail
      exact aI ⟨_,rfl,BX.o,w'.heap.size,rfl,HV.o⟩
     rw[cZ]
     rotate_left
     all_goals clear aA bB cZ nQ
     all_goals (refine aP rfl ?_;go_wp2_with fail;exact aI ⟨_,rfl,aG _ _,rfl⟩)
    case hA =>
     intro listed a' w4 H bA aD bj;have mR:=H.done 1 _ 24 rfl (aD 1 (by decide)) rfl;have rZ:=H.done 7 _ 30 rfl (aD 7 (by decide)) rfl;have pJ:=H.done 9 _ 32 rfl bj rfl;have aK:=I H.below;obtain⟨zf,hz,rfl⟩:=H.actXz bA [23,24,25,26,27,28,29,30,32] (RN (by kernel_rfl));rw[hz] at mR rZ pJ;clear H aD bA bj hz;simp only[fcL,fnL,Act.put,sbT,scS,scZ];rw[show zf 24=_ from mR];clear mR;obtain⟨V,e7,hV⟩:=rZ;rw[e7];clear e7;rw[show zf 32=_ from pJ];clear pJ;have HV:=I hV;have S5:=S4.st aK.o;have X5:=X4.st aK.o;have R5:=I (R4.o.step aK.o);have M5:=I (M4.o.step BlE.keeps aK.o);have B5:=B4.tr aK.o;have E5:=I (Vh.o w4 B5.o (fun g=>0<=g/\¬ (g=T\/g=w.heap.size+1\/D g)/\blk co'≠some g) (fun g hg hd=>⟨Nat.zero_le _,fun e=>by have:=fA.o;rcases e with e | e | e;omega;omega;exact hd e,fun e=>by have:=lK.o g e;have:=fA.o;omega⟩));have jG:Hid (T+1<=w4.heap.size):=I S5.o.lt;clear hV aK mY bZ oE Vh S4 X4 R4 M4 B4;refine(aP rfl ?_);refine ZO 86 87 (.slice none 0 0) 1 24 Tryz.underlying86 Hr rfl (by omega) (by omega) w4 (T+1) rfl (.tmp 24) (.tmp 30) rfl co' kc ix vss.flatten ?r1A M5.o.own jG.o V 1 1 [.slice bo mn bc] 87 ?r2A HV.o rfl (by omega) ?r3A (by omega) ?_
     case r1A=>rfl
     case r2A=>rfl
     case r3A=>simp[Value.oneCell']
     intro g5 off5 c5 wa o8 aX bW;have Cl:Hid (T+1<=g5):=I (o8.blk_lt (g:=g5) rfl).1;have M8:=I (RowM.addS BlE.keeps M5.o E5.o rfl o8 aX bW);have S8:=I (S5.o.grownBy aX (fun e=>by have:=lK.o _ e;omega));have X8:=I (X5.o.grownBy aX (fun e=>by have:=lK.o _ e;have:=fA.o;omega));have R8:=I (R5.o.grownBy aX (fun e=>by have:=lK.o _ e;have:=fA.o;omega));have B8:=I (B5.o.trans ((qa M5.o.own aX jG.o).mono (by have:=fA.o;omega)));clear o8 aX bW S5 X5 R5 M5 B5 E5 HV;have t3:=S8.o.cell 3 _ rfl;have tf:=S8.o.warm 3;have on:=(Only.refl wa (· = T)).setCell (a:=⟨T,3,none⟩) (.slice (some ⟨g5,off5,none⟩) (ix+1) c5) rfl;have S9:=I (S8.o.set 3 (.slice (some ⟨g5,off5,none⟩) (ix+1) c5));have M9:=I (RowM.turn BlE.keeps M8.o on (fun g hg=>.inl (.inl hg)) (fun g hg e=>by have:=Cl.o;have h:g5=g:=bF hg;omega));have X9:=I (X8.o.only on (fun e=>by have:=fA.o;omega));have R9:=I (R8.o.only on (fun e=>by have:=fA.o;omega));have B9:=I (Only.later B8.o on (fun g hg=>by have:=fA.o;omega));clear on S8 M8 X8 R8 B8
     go_wp2_with fail
     refine aI (nE (aP rfl ?_))
     go_wp2_with fail
     refine aI (vM ?_);clear t3 tf;generalize wa.setCell ⟨T,3,none⟩ (.slice (some ⟨g5,off5,none⟩) (ix+1) c5)=wz at *
     go_wp2_with fail
     go_roundw
     case rel=>exact⟨ix+1,some ⟨g5,off5,none⟩,c5,vss++[[.slice bo mn bc]],by go_num,by omega,S9,I (by rw[rW.o];exact M9.o),X9,R9,B9⟩
     case measure=>simp only[intOf];omega
    case hB =>
     intro listed a' w4 H bA aD;have mR:=H.done 1 _ 24 rfl (aD 1 (by decide)) rfl;have rZ:=H.done 7 _ 30 rfl (aD 7 (by decide)) rfl;have aK:=I H.below;obtain⟨zf,hz,rfl⟩:=H.actXz bA [23,24,25,26,27,28,29,30,32] (RN (by kernel_rfl));rw[hz] at mR rZ;clear H aD bA hz;simp only[fcL,fnL,Act.put,sbT,scS,scZ];rw[show zf 24=_ from mR];clear mR;obtain⟨V,e7,hV⟩:=rZ;rw[e7];clear e7;have HV:=I hV;have S5:=S4.st aK.o;have X5:=X4.st aK.o;have R5:=I (R4.o.step aK.o);have M5:=I (M4.o.step BlE.keeps aK.o);have B5:=B4.tr aK.o;have E5:=I (Vh.o w4 B5.o (fun g=>0<=g/\¬ (g=T\/g=w.heap.size+1\/D g)/\blk co'≠some g) (fun g hg hd=>⟨Nat.zero_le _,fun e=>by have:=fA.o;rcases e with e | e | e;omega;omega;exact hd e,fun e=>by have:=lK.o g e;have:=fA.o;omega⟩));have jG:Hid (T+1<=w4.heap.size):=I S5.o.lt;clear hV aK mY bZ oE Vh S4 X4 R4 M4 B4;refine nE (aP rfl ?_);refine ZO 86 87 (.slice none 0 0) 1 24 Tryz.underlying86 Hr rfl (by omega) (by omega) w4 (T+1) rfl (.tmp 24) (.tmp 30) rfl co' kc ix vss.flatten ?r1B M5.o.own jG.o V 1 1 [.slice bo mn bc] 87 ?r2B HV.o rfl (by omega) ?r3B (by omega) ?_
     case r1B=>rfl
     case r2B=>rfl
     case r3B=>simp[Value.oneCell']
     intro g5 off5 c5 wa o8 aX bW;have Cl:Hid (T+1<=g5):=I (o8.blk_lt (g:=g5) rfl).1;have M8:=I (RowM.addS BlE.keeps M5.o E5.o rfl o8 aX bW);have S8:=I (S5.o.grownBy aX (fun e=>by have:=lK.o _ e;omega));have X8:=I (X5.o.grownBy aX (fun e=>by have:=lK.o _ e;have:=fA.o;omega));have R8:=I (R5.o.grownBy aX (fun e=>by have:=lK.o _ e;have:=fA.o;omega));have B8:=I (B5.o.trans ((qa M5.o.own aX jG.o).mono (by have:=fA.o;omega)));clear o8 aX bW S5 X5 R5 M5 B5 E5 HV;have t3:=S8.o.cell 3 _ rfl;have tf:=S8.o.warm 3;have on:=(Only.refl wa (· = T)).setCell (a:=⟨T,3,none⟩) (.slice (some ⟨g5,off5,none⟩) (ix+1) c5) rfl;have S9:=I (S8.o.set 3 (.slice (some ⟨g5,off5,none⟩) (ix+1) c5));have M9:=I (RowM.turn BlE.keeps M8.o on (fun g hg=>.inl (.inl hg)) (fun g hg e=>by have:=Cl.o;have h:g5=g:=bF hg;omega));have X9:=I (X8.o.only on (fun e=>by have:=fA.o;omega));have R9:=I (R8.o.only on (fun e=>by have:=fA.o;omega));have B9:=I (Only.later B8.o on (fun g hg=>by have:=fA.o;omega));clear on S8 M8 X8 R8 B8
     go_wp2_with fail
     refine aI (nE (aP rfl ?_))
     go_wp2_with fail
     refine aI (nE (aP rfl ?_))
     go_wp2_with fail
     refine aI (vM ?_);clear t3 tf;generalize wa.setCell ⟨T,3,none⟩ (.slice (some ⟨g5,off5,none⟩) (ix+1) c5)=wz at *
     go_wp2_with fail
     go_roundw
     case rel=>exact⟨ix+1,some ⟨g5,off5,none⟩,c5,vss++[[.slice bo mn bc]],by go_num,by omega,S9,I (by rw[rW.o];exact M9.o),X9,R9,B9⟩
     case measure=>simp only[intOf];omega
  ·have ii:¬ (ix:Int)<cn:=by omega
   obtain rfl:cn=ix:=by omega
   go_upto_region 10 with(fail)
   clear c3
   go_wp2_with (first | (refine wpList_load_row rfl 137 (.tmp 7) rfl (T) ?xt 137 #[.slice qo qn qc,.slice mo mn mc,.slice uo un uc,.slice co' cn kc] (0,0) _ S4.o Tryz.underlying137 rfl (pD _ _ _ _) ?_;(case xt=>rfl)) | (refine sG rfl 137 (.tmp 6) (.tmp 57) rfl (w.heap.size+1) #[.slice qo qn qc,.slice mo mn mc,.slice uo un uc,.slice co' cn kc] (by rfl) (by rfl) 137 _ R4.o (pD _ _ _ _) rfl (by simp[Value.oneCell']) ?_;intro Nf s9 u9;have Kh:=I s9;have Ha:=I u9;clear s9 u9))
   have Ty:Hid (kV Nf D FX co'):=I (by
    have h:=(M4.o.turn BlE.keeps (Ha.o.only (p:=(· = w.heap.size+1)) rfl) (fun g hg=>.inl (.inr (.inl hg))) (fun g hg e=>by have:=(M4.o.own.blk_lt hg).1;have:=fA.o;omega)).rowsD (D:=D) (fun g e=>.inr (.inr e)) (fun g e=>by have:=Ju.o g e;have:=fA.o;omega)
    rwa [List.take_of_length_le (by rw[zA.o];exact aO _)] at h)
   have Rr:=I (Ha.o.below B4.o (by omega));exact bodyPost_ret (results_cell_row (p:=6) (by kernel_rfl) _ _ (w.heap.size+1) 137 #[.slice qo qn qc,.slice mo mn mc,.slice uo un uc,.slice co' cn kc] (0,0) _ rfl Kh.o Tryz.underlying137 rfl (pD _ _ _ _)) rfl (by refine⟨?_,Rr.o⟩;exact⟨_,⟨_,rfl⟩,Ty.o⟩)
theorem ZQ(w:World)(c:Crw)(C:List (List Bool))(ts:List Value)(h:rL w c C ts)(hC:∀ r∈C,r.length=c.ms.length)(uV:C.length<=1000)(Dr:c.ms.length<=1000)(u m:Nat)(hu:u<C.length)(hm:m<c.ms.length) :
  Calls Tryz.prog 115 #[.agg ts.toArray,.int .i64 (u:Nat),.int .i64 (m:Nat)] w fun e w'=>(∃ ts',e = .returned (.agg ts'.toArray)/\rL w' c (bV c C u m) ts')/\Below w.heap.size w w':=by
 obtain⟨qo,qc,mo,mc,uo,uc,co,cc,rfl,dL,cN,dN,rO⟩:=h;refine(qb w c C qo mo uo co qc mc uc cc (fun _=>False) (fun g e=>e.elim) (rO.rowsD (fun g _ e=>e)) hC uV Dr u m hu hm).mono ?_;rintro e w' ⟨⟨co',cc',rfl,hr⟩,hb⟩;exact⟨⟨_,rfl,qo,qc,mo,mc,uo,uc,co',cc',by rw[EX],dL.below hb,cN.below hb,dN.below hb,hr.rowsB⟩,hb⟩
end
section
open Go.RowKit Go.Sort Go.Maps
theorem qd{c:Crw}{C:List (List Bool)}(aJ:ReckOk c C){j:Nat}{m:Mem}(h:c.ms[j]?=some m)(k:Nat):eI m.t k=(((aR c C).cap j k:Nat):Int)/\(aR c C).cap j k<=4096/\m.t.length<=1000:=by
 have h1:=aJ.tic m (bU h)
 have h0:0<=eI m.t k/\eI m.t k<=4096:=by
  unfold eI;rw[bR]
  cases hx:m.t[k]? with
  | none=>exact⟨Int.le_refl 0,by decide⟩
  | some x=>exact h1.1 x (bU hx)
 have e:(aR c C).cap j k=(eI m.t k).toNat:=by
  show(eI (c.ms.getD j ⟨[],[],0⟩).t k).toNat=_;rw[bR,h];rfl
 rw[e];omega
end
section
open Go.RowKit Go.Sort Go.Maps
theorem GA(w:World)(c:Crw)(cs:List Value)(u:Int)(ha:ArgR w c cs) :
  Calls Tryz.prog 114 #[.agg cs.toArray,.int .i64 u] w fun e w'=>e = .returned (.bool (bG c&&cM u c.us.length))/\Below w.heap.size w w':=by
 have lD:=I (fun W (hW:Below w.heap.size w W)=>Wm W c cs (ha.below hW));have gV:=ha.nu;have eZ:=I (fun W=>yQ u 0 ((c.us.length:Int)-1) W);have mZ:Hid (cM u c.us.length=inB u 0 ((c.us.length:Int)-1)):=I rfl;rw[mZ.o];obtain⟨qo,qc,mo,mc,uo,uc,rfl,-,-⟩:=Tl ha.crw;clear ha mZ;generalize bG c=vc at *;generalize c.qs.length=qn at *;generalize c.ms.length=mn at *;generalize c.us.length=un at *;have X1:=hnw w 26 [.slice qo qn qc,.slice mo mn mc,.slice uo un uc];have B1:=I (bwA w (.cells #[.slice qo qn qc,.slice mo mn mc,.slice uo un uc] 26));have e1:IntKind.i64.wrap ((un:Int)-1)=(un:Int)-1:=fU _ (by omega);generalize inB u 0 ((un:Int)-1)=ib at *
 go_enter Tryz.func114,Tryz.ntmps114
 go_upto_region 1 with(fail)
 generalize w.alloc (.cells #[.slice qo qn qc,.slice mo mn mc,.slice uo un uc] 26)=w1 at *
 go_wp2_with (refine wpList_load_row rfl 26 (.tmp 2) rfl (w.heap.size) ?x1 26 #[.slice qo qn qc,.slice mo mn mc,.slice uo un uc] (0,0) _ X1.o Tryz.underlying26 rfl (kU _ _ _) ?_;(case x1=>rfl))
 refine(lD.o w1 B1.o).mono ?_;rintro e w2 ⟨rfl,b2⟩;have X2:=X1.st b2;have B2:=B1.tr b2;clear b2 X1 B1 lD;have c2:=X2.o.cell 2 _ rfl
 cases vc with
 | false =>
  go_wp2_with fail
  go_ret;exact⟨rfl,B2.o⟩
 | true =>
  go_wp2_with fail
  refine(eZ.o w2).mono ?_;rintro e w3 ⟨rfl,rfl⟩
  go_wp2_with fail
  go_ret;exact⟨rfl,B2.o⟩
end
section
open Go.RowKit Go.Sort Go.Maps
theorem ZR(w:World)(c:Crw)(C:List (List Bool))(gV:c.us.length<=1000)(OC:∀ x∈c.us,0<=x.w/\x.w<=15)(ts:List Value)(ht:rL w c C ts)(a:Nat->Int)(lo:Option Addr)(lc:Nat)(hl:aY aZ w lo (lA c.us.length a))(m:Int)(wd:Nat) :
  Calls Tryz.prog 128 #[.agg ts.toArray,.slice lo c.us.length lc,.int .i64 m,.int .i64 (wd:Nat)] w fun e w'=>e = .returned (.int .i64 (((List.range c.us.length).countP (fun v=>a v==m&&(aR c C).win v==wd):Nat):Int))/\Below w.heap.size w w':=by
 obtain⟨qo,qc,mo,mc,uo,uc,co,cc,rfl,-,-,dN,-⟩:=ht;have jJ:=I (fun W (hW:Below w.heap.size w W)=>dN.below hW);have fQ:=I (fun W (hW:Below w.heap.size w W)=>hl.below hW)
 have zL:Hid (∀ k x,c.us[k]?=some x->x.w=(((aR c C).win k:Nat):Int)):=I (fun k x hx=>by
  have h:=OC x (bU hx);show x.w=(((c.us.getD k ⟨0,0,0,0⟩).w.toNat:Nat):Int);rw[bR,hx];show x.w=((x.w.toNat:Nat):Int)
  omega)
 clear dN hl OC;generalize (aR c C).win=win at *
 have lQ:Hid (∀ i,(List.range (i+1)).countP (fun v=>a v==m&&win v==wd)=(List.range i).countP (fun v=>a v==m&&win v==wd)+(if (a i==m&&win i==wd)=true then 1 else 0)):=I (fun i=>by
  rw[List.range_succ,List.countP_append,List.countP_cons,List.countP_nil,Nat.zero_add])
 have Ng:Hid (∀ i,(List.range i).countP (fun v=>a v==m&&win v==wd)<=i):=I (fun i=>by
  have:=List.countP_le_length (p:=fun v=>a v==m&&win v==wd) (l:=List.range i)
  rwa [List.length_range] at this)
 obtain⟨G,hG⟩:∃ g:Nat->Nat,(fun i=>(List.range i).countP (fun v=>a v==m&&win v==wd))=g:=⟨_,rfl⟩;have kf:Hid (G 0=0):=I (by rw[<- hG];rfl);have oP:Hid (∀ i,G (i+1)=G i+(if (a i==m&&win i==wd)=true then 1 else 0)):=I (by rw[<- hG];exact lQ.o);have uT:Hid (∀ i,G i<=i):=I (by rw[<- hG];exact Ng.o)
 have OD:(List.range c.us.length).countP (fun v=>a v==m&&win v==wd)=G c.us.length:=by rw[<- hG]
 rw[OD];clear hG lQ Ng OD;generalize C.length=cn at *;generalize c.qs.length=qn at *;generalize c.ms.length=mn at *;generalize jQ:c.us.length=un at *;have dZ:=I jQ;clear jQ;have X1:=hnw w 137 [.slice qo qn qc,.slice mo mn mc,.slice uo un uc,.slice co cn cc];have B1:=I (bwA w (.cells #[.slice qo qn qc,.slice mo mn mc,.slice uo un uc,.slice co cn cc] 137))
 go_enter Tryz.func128,Tryz.ntmps128
 go_upto_region 3 with(fail)
 generalize w.alloc (.cells #[.slice qo qn qc,.slice mo mn mc,.slice uo un uc,.slice co cn cc] 137)=w1 at *
 go_loopw [9,10] (fun nv iv wr=>∃ (i n:Nat),iv = .int .i64 i/\nv = .int .i64 n/\i<=un/\Hid (n=G i)/\Hid (wr=w1)) (fun _ i _=>(un-intOf i).toNat)
 case atStart=>exact⟨0,0,rfl,rfl,by omega,I kf.o.symm,I rfl⟩
 case round =>
  obtain⟨i,n,rfl,rfl,hi,HN,HW⟩:=hrel;have hw:=HW.o;subst hw;clear HW;have e2:=w1i i (by omega)
  have wR:n<=i:=by rw[HN.o];exact uT.o i
  have e3:=w1i n (by omega);have c2:=X1.o.cell 2 _ rfl;by_cases aT:i<un
  ·have ii:(i:Int)<un:=by omega
   obtain⟨g,off,fI,hg,eK⟩:=(fQ.o wr B1.o).at jN i (a i) (ey a aT);have y0:=eK 0 _ rfl;rw[Nat.mul_one,Nat.add_zero] at y0;obtain⟨x,hx⟩:∃ x,c.us[i]?=some x:=⟨_,aL (by rw[dZ.o];exact aT)⟩;obtain⟨gu,ou,eV,iZ,cF⟩:=(jJ.o wr B1.o).at mN i x hx;have p1:wr.cell? ⟨gu,ou+i*4+1,none⟩=some (.int .i64 x.w):=cF 1 _ rfl;rw[zL.o i x hx] at p1;have dY:=I (oP.o i);clear eK hg hx iZ cF;have Gd:=I fI;have Mg:=I eV;subst fI;subst eV;generalize a i=ai at *;generalize win i=wi at *;by_cases h1:ai=m
   ·subst h1
    have q1:(ai==ai)=true:=by simp
    by_cases h2:wi=wd
    ·subst h2
     have q2:(((wi:Nat):Int)==((wi:Nat):Int))=true:=by simp
     have zK:Hid (n+1=G (i+1)):=I (by rw[dY.o,HN.o];simp)
     go_wp2_with fail
     go_roundw
     case rel=>exact⟨i+1,n+1,by go_num,by go_num,by omega,zK,I trivial⟩
     case measure=>simp only[intOf];omega
    ·have q2:(((wi:Nat):Int)==((wd:Nat):Int))=false:=by rw[beq_eq_false_iff_ne];omega
     have zK:Hid (n=G (i+1)):=I (by rw[dY.o,HN.o];simp[h2])
     go_wp2_with fail
     go_roundw
     case rel=>exact⟨i+1,n,by go_num,rfl,by omega,zK,I trivial⟩
     case measure=>simp only[intOf];omega
   ·have q1:(ai==m)=false:=by simpa using h1
    have zK:Hid (n=G (i+1)):=I (by rw[dY.o,HN.o,q1];simp)
    go_wp2_with fail
    go_roundw
    case rel=>exact⟨i+1,n,by go_num,rfl,by omega,zK,I trivial⟩
    case measure=>simp only[intOf];omega
  ·have ii:¬ (i:Int)<un:=by omega
   obtain rfl:un=i:=by omega
   have HE:=I HN.o
   go_wp2_with fail
   go_ret;exact⟨by rw[HE.o];rfl,B1.o⟩
theorem ZS(t:Array Value)(h:t.size=97):∃ f:Nat->Value,t=#[f 0,f 1,f 2,f 3,f 4,f 5,f 6,f 7,f 8,f 9,f 10,f 11,f 12,f 13,f 14,f 15,f 16,f 17,f 18,f 19,f 20,f 21,f 22,f 23,f 24,f 25,f 26,f 27,f 28,f 29,f 30,f 31,f 32,f 33,f 34,f 35,f 36,f 37,f 38,f 39,f 40,f 41,f 42,f 43,f 44,f 45,f 46,f 47,f 48,f 49,f 50,f 51,f 52,f 53,f 54,f 55,f 56,f 57,f 58,f 59,f 60,f 61,f 62,f 63,f 64,f 65,f 66,f 67,f 68,f 69,f 70,f 71,f 72,f 73,f 74,f 75,f 76,f 77,f 78,f 79,f 80,f 81,f 82,f 83,f 84,f 85,f 86,f 87,f 88,f 89,f 90,f 91,f 92,f 93,f 94,f 95,f 96]/\∀ d,t.getD d undef=f d:=by
 obtain⟨l⟩:=t;have hl:l.length=97:=h
 have e:l=(List.range 97).map (fun i=>l.getD i undef):=by
  apply List.ext_getElem
  ·simp[hl]
  ·intro i h1 h2
   simp[List.getD,h1]
 exact⟨fun i=>l.getD i undef,congrArg List.toArray e,fun d=>by simp⟩
def ZT(D LB loff lcap k wd n gm om qn qc mn mc un uc cc nb bc nt tc:Nat)(qo uo co bo to':Option Addr)(mr tk:Int)(bb:Bool):List Value:=[.agg #[.slice qo qn qc,.slice (some ⟨gm,om,none⟩) mn mc,.slice uo un uc,.slice co un cc],.slice (some ⟨LB,loff,none⟩) un lcap,.int .i64 (k:Nat),.int .i64 (wd:Nat),.int .i64 (n:Nat),.pointer (some ⟨D,0,none⟩),.pointer (some ⟨D,1,none⟩),.slice (some ⟨gm,om,none⟩) mn mc,.int .i64 (k:Nat),.pointer (some ⟨gm,om+k*3,none⟩),.agg #[.slice bo nb bc,.slice to' nt tc,.int .i64 mr],.int .i64 (wd:Nat),.int .i64 tk,.bool bb]
def fm(w w':World)(T:Tbl)(wd B LB loff lcap SB u:Nat)(s:Plc)(e:Ending):Prop:=∃ b s',e = .returned (.bool b)/\Nm T.can (fun m=>T.cap m wd) T.M (fun v=>v<T.U/\T.win v=wd) u s (b,s') /\
 OwnK w' B 1 T.U lcap ((lA T.U s'.a).flatMap aZ) (some ⟨LB,loff,none⟩)/\aC w' SB 4 (bvs (tA T.M s'.t))/\Only w w' (fun g=>g=LB\/g=SB)
structure PlcI (w0 W:World) (T:Tbl) (wd LB loff lcap SB u:Nat) (s:Plc):Prop where
 bel:Below w0.heap.size w0 W
 call:PlcCall T.can (fun m=>T.cap m wd) T.M (fun v=>v<T.U/\T.win v=wd) u s
 srt:∀ m,s.g m=gA T wd s.a m
 l:OwnK W w0.heap.size 1 T.U lcap ((lA T.U s.a).flatMap aZ) (some ⟨LB,loff,none⟩)
 t:aC W SB 4 (bvs (tA T.M s.t))
theorem Zqv (c:Crw) (C:List (List Bool)) (aJ:ReckOk c C) (w0 w:World) (ts:List Value) (ht:rL w0 c C ts) (wd u LB loff lcap SB:Nat) (s0:Plc) (wP:wd<=1000) (hS0:w0.heap.size<=SB) (hLS:LB≠SB)
  (hp:PlcI w0 w (aR c C) wd LB loff lcap SB u s0)
  (gN:∀ (o:Nat) (sj:Plc) (W:World),PlcI w0 W (aR c C) wd LB loff lcap SB o sj->lM (aR c C).M sj<lM (aR c C).M s0 ->
   Calls Tryz.prog 197 #[.agg ts.toArray,.slice (some ⟨LB,loff,none⟩) (aR c C).U lcap,.int .i64 (o:Nat),.slice (some ⟨SB,0,none⟩) (aR c C).M (aR c C).M] W fun e w'=>fm W w' (aR c C) wd w0.heap.size LB loff lcap SB o sj e) :
  Calls Tryz.prog 197 #[.agg ts.toArray,.slice (some ⟨LB,loff,none⟩) (aR c C).U lcap,.int .i64 (u:Nat),.slice (some ⟨SB,0,none⟩) (aR c C).M (aR c C).M] w fun e w'=>fm w w' (aR c C) wd w0.heap.size LB loff lcap SB u s0 e:=by
 have qL:=I (fun(a:Nat->Int) (m:Int) W (hW:Below w0.heap.size w0 W) (hl:OwnK W w0.heap.size 1 (aR c C).U lcap ((lA (aR c C).U a).flatMap aZ) (some ⟨LB,loff,none⟩))=>ZR W c C aJ.nu aJ.win ts (ht.below hW) a (some ⟨LB,loff,none⟩) lcap (hl.flatR jN (ph _ _).symm) m wd);have Gl:=I (fun j m (h:c.ms[j]?=some m)=>qd aJ h wd);obtain⟨qo,qc,mo,mc,uo,uc,co,cc,rfl,-,cN,dN,rO⟩:=ht;have Dr:=aJ.nm;have gV:=aJ.nu;have nA:=I (fun W (hW:Below w0.heap.size w0 W)=>cN.below hW);have jJ:=I (fun W (hW:Below w0.heap.size w0 W)=>dN.below hW);have oE:=I (fun W (hW:Below w0.heap.size w0 W)=>rO.below hW);have eX:=I aJ.row;have cA:=I aJ.len
 have zL:Hid (∀ k x,c.us[k]?=some x->x.w=(((aR c C).win k:Nat):Int)):=I (fun k x hx=>by
  have h:=aJ.win x (bU hx);show x.w=(((c.us.getD k ⟨0,0,0,0⟩).w.toNat:Nat):Int);rw[bR,hx];show x.w=((x.w.toNat:Nat):Int)
  omega)
 have lQ:Hid (∀ k m r,C[k]?=some r->m<r.length->r[m]?=some ((aR c C).can k m)):=I (fun k m r hr hm=>by
  show r[m]?=some ((C.getD k []).getD m false);rw[bR (l:=C),hr,aL hm];show _=some (r.getD m false)
  rw[bR,aL hm];rfl)
 have hU:(aR c C).U=c.us.length:=rfl;have hM:(aR c C).M=c.ms.length:=rfl;rw[aJ.len] at qL gN ⊢;have mF:Hid ((aR c C).U=c.us.length):=I hU;have wJ:Hid ((aR c C).M=c.ms.length):=I hM;clear cN dN rO aJ;generalize aR c C=T at *;have gN:=I gN;obtain⟨nL,sN,Nh,kW,Bl⟩:=hp;have Po:=I nL;have Rs:=I Nh;have xQ:=I (PlcPre.enter sN);have zH:=I sN.win;have AQ:=I sN.held;unfold fm at gN;unfold fm;rw[hU] at gN qL kW xQ zH ⊢;rw[hM] at gN Bl xQ ⊢;have sS:Hid (∀ m,(fun m=>T.cap m wd) m=T.cap m wd):=I (fun _=>rfl);have L0:=I kW;have V0:=I Bl;have Cw:Hid (LB<w.heap.size/\SB<w.heap.size/\w0.heap.size<=LB/\w0.heap.size<=SB/\LB≠SB):=I ⟨(kW.blk_lt rfl).2,Bl.lt,(kW.blk_lt rfl).1,hS0,hLS⟩;have Ue:Hid (lM c.ms.length { s0 with r:=s0.r++[u] }=lM c.ms.length s0):=I rfl
 have Vi:u<c.us.length:=by rw[<- hU];exact sN.win.1
 have Z9:T.win u=wd:=sN.win.2;clear nL sN Nh kW Bl hS0 hLS hU;have X1:=hnw w 137 [.slice qo c.qs.length qc,.slice mo c.ms.length mc,.slice uo c.us.length uc,.slice co c.us.length cc];have bx:=bwA w (.cells #[.slice qo c.qs.length qc,.slice mo c.ms.length mc,.slice uo c.us.length uc,.slice co c.us.length cc] 137);generalize c.qs.length=qn at *;generalize lG:c.ms.length=mn at *;generalize jQ:c.us.length=un at *;have jo:=I jQ;have Gh:=I lG;clear lG jQ;have L1:=I (L0.o.below bx);have V1:=I (V0.o.step bx);have N1:Hid (Only w (w.alloc (.cells #[.slice qo qn qc,.slice mo mn mc,.slice uo un uc,.slice co un cc] 137)) (fun g=>g=LB\/g=SB)):=I (Only.of_below bx);clear bx L0 V0 hM;obtain⟨x,Rp⟩:∃ x,c.us[u]?=some x:=⟨_,aL (by rw[jo.o];exact Vi)⟩;obtain⟨row,aS⟩:∃ r,C[u]?=some r:=⟨_,aL (by rw[cA.o];exact Vi)⟩;have tT:=I (eX.o row (bU aS));have Mj:=I (fun m hm=>lQ.o u m row aS hm);have Mh:=I (fun W (hW:Below w0.heap.size w0 W)=>(oE.o W hW).at u row aS);have a_:=I (fun W (hW:Below w0.heap.size w0 W)=>(jJ.o W hW).at mN u x Rp);have AS:Hid (x.w=(wd:Int)):=I (by rw[zL.o u x Rp,Z9]);clear Rp aS eX lQ oE
 have kP:=I (fun W (hW:Only w W (fun g=>g=LB\/g=SB))=>Only.later Po.o hW (fun g hg=>by
  rcases hg with rfl | rfl
  ·exact Cw.o.2.2.1
  ·exact Cw.o.2.2.2.1))
 go_enter Tryz.func197,Tryz.ntmps197
 go_upto_region 1 with(fail)
 generalize w.alloc (.cells #[.slice qo qn qc,.slice mo mn mc,.slice uo un uc,.slice co un cc] 137)=w1 at *;have c2:=X1.o.cell 2 _ rfl
 have uu:(u:Int)<(un:Nat):=by omega
 obtain⟨gu,ou,eV,iZ,cF⟩:=a_.o w1 (kP.o w1 N1.o);have p1:w1.cell? ⟨gu,ou+u*4+1,none⟩=some (.int .i64 x.w):=cF 1 _ rfl;rw[AS.o] at p1;clear iZ cF;subst eV
 go_upto_region 3 with(fail)
 clear p1 c2
 go_loopw [10] (fun kv wr=>∃ (k:Nat) (s:Plc),kv = .int .i64 k/\k<=mn/\Hid (Stuck T.can (fun m=>T.cap m wd) mn (fun _=>False) { s0 with r:=s0.r++[u] } s)/\Hid (∀ m,m<k->T.can u m=true->s.t m=true)/\Hid (OwnK wr w0.heap.size 1 un lcap ((lA un s0.a).flatMap aZ) (some ⟨LB,loff,none⟩))/\Hid (aC wr SB 4 (bvs (tA mn s.t)))/\Hid (Only w wr (fun g=>g=LB\/g=SB))/\Hid (aC wr w.heap.size 137 [.slice qo qn qc,.slice mo mn mc,.slice (some ⟨gu,ou,none⟩) un uc,.slice co un cc])) (fun k _=>(mn-intOf k).toNat)
 case atStart=>exact⟨0,{ s0 with r:=s0.r++[u] },rfl,by omega,I (Stuck.refl _ xQ.o.reach),I (fun m hm=>by omega),L1,V1,N1,X1⟩
 case round =>
  clear L1 V1 N1 X1;obtain⟨k,s,rfl,hk,bQ,Qm,LR,VR,NR,XR⟩:=hrel;have e2:=w1i k (by omega);have c1:=XR.o.cell 1 _ rfl;by_cases oR:k<mn
  ·have kk:(k:Int)<mn:=by omega
   have wB:=I kk;have c3:=XR.o.cell 3 _ rfl;obtain⟨gc,oc,bo,bc,iE,mU,dG,jZ⟩:=Mh.o wr (kP.o wr NR.o);rw[tT.o] at dG;obtain⟨g2,o2,dE,qF,eK⟩:=jZ.at Su k _ (Mj.o k (by rw[tT.o];exact oR));have y1:=eK 0 _ rfl;rw[Nat.mul_one,Nat.add_zero] at y1;obtain⟨cb,rF⟩:=exq (T.can u k);rw[rF] at y1;have Ng:=I rF;have rQ:=I iE;subst dE;clear eK rF qF jZ mU;obtain⟨sb,Mo⟩:=exq (s.t k);have mY:=I Mo;have z0:=VR.o.cell k _ (show(bvs (tA mn s.t))[k]?=some (.bool sb) by unfold bvs;rw[dK,Z4e s.t oR,Mo];rfl);have zf:=VR.o.warm k;clear Mo;subst iE;by_cases Jg:cb=true/\sb=false
   ·obtain⟨rfl,rfl⟩:=Jg
    have yA:Hid (PlcPre T.can (fun m=>T.cap m wd) mn (fun v=>v<un/\T.win v=wd) s):=I (xQ.o.after bQ.o (fun v hv=>hv.elim));have Gc:Hid (s.g=s0.g):=I bQ.o.g;have Vj:Hid (s.a=s0.a):=I bQ.o.a
    have HT0:Hid (s0.t k=false):=I (by
     cases e:s0.t k with
     | false=>rfl
     | true=>have h:=bQ.o.more k e;rw[mY.o] at h;cases h)
    have kp:Hid (k<mn):=I oR;have OE:Hid (∀ m,u∈s.g m->s.t m=true):=I (fun m hm=>bQ.o.more m (AQ.o m (by rw[<- Gc.o];exact hm)))
    have VS:Hid (aC (wr.setCell ⟨SB,k,none⟩ (.bool true)) SB 4 (bvs (tA mn (aM s.t k true)))):=I (by
     have h:=VR.o.set k (.bool true)
     have e:(bvs (tA mn s.t)).set k (.bool true)=bvs (tA mn (aM s.t k true)):=by unfold bvs;rw[<- Z3n,List.map_set]
     rwa [e] at h)
    have on:=(Only.refl wr (fun g=>g=LB\/g=SB)).setCell (a:=⟨SB,k,none⟩) (.bool true) (.inr rfl);have LS:=I (LR.o.setCell (p:=⟨SB,k,none⟩) (.bool true) (fun e=>by have e:LB=SB:=bF e;exact Cw.o.2.2.2.2 e));have NS:=I (NR.o.trans on);have XS:=I (XR.o.only on (fun e=>by rcases e with e | e<;>(have:=Cw.o;omega)));clear on LR VR NR XR
    go_upto_region 7 with(fail)
    clear z0 zf y1 c1 c3 dG;generalize wr.setCell ⟨SB,k,none⟩ (.bool true)=wt at *;have Mt:=I (kP.o wt NS.o);obtain⟨m,hm⟩:∃ m,c.ms[k]?=some m:=⟨_,aL (by rw[Gh.o];exact oR)⟩;obtain⟨vB,-,tS⟩:=Gl.o k m hm;obtain⟨gm,om,csm,lC,gI,dX,nB⟩:=(nA.o wt Mt.o).at k m hm;have dM:=I (fun W (hW:Below wt.heap.size wt W)=>FT W m csm (dX.below hW) wd (by omega) (by omega));rw[vB] at dM;obtain⟨bo,bc,to',tc,rfl,-,-⟩:=dX;have p0:wt.cell? ⟨gm,om+k*3,none⟩=some (.slice bo m.b.length bc):=nB 0 _ rfl;have p1:wt.cell? ⟨gm,om+k*3+1,none⟩=some (.slice to' m.t.length tc):=nB 1 _ rfl;have p2:wt.cell? ⟨gm,om+k*3+2,none⟩=some (.int .i64 m.r):=nB 2 _ rfl;have qK:=I (fun W (hW:Below wt.heap.size wt W)=>(⟨(hW.cell (p:=⟨gm,om+k*3,none⟩) gI).trans p0,(hW.cell (p:=⟨gm,om+k*3+1,none⟩) gI).trans p1,(hW.cell (p:=⟨gm,om+k*3+2,none⟩) gI).trans p2⟩:_/\_/\_));generalize m.b.length=nb at *;generalize m.t.length=nt at *;generalize m.r=mr at *;clear hm gI nB p0 p1 p2 vB tS;have bZ:=I (fun W (hW:Below wt.heap.size wt W)=>XS.o.step hW);have qL:=I (fun W (hW:Below wt.heap.size wt W)=>qL.o s0.a (k:Int) W (Mt.o.trans (hW.mono Mt.o.size)) (LS.o.below hW));obtain⟨n,hn⟩:∃ n,(List.range un).countP (fun v=>s0.a v==(k:Int)&&T.win v==wd)=n:=⟨_,rfl⟩;rw[hn] at qL;have oP:Hid ((s.g k).length=n):=I (by rw[Gc.o,Rs.o k,Z3m,mF.o];exact hn);clear hn;have Gi:=I lC;subst lC;obtain⟨tk,vB⟩:=exq (T.cap k wd);have bm:=I vB;rw[vB] at dM;clear vB;by_cases aE:n<tk
    ·have Rt:Hid ((n:Int)<((tk:Nat):Int)):=I (by omega)
     refine oK (lF (ZT w.heap.size LB loff lcap k wd n gm om qn qc mn mc un uc cc nb bc nt tc qo (some ⟨gu,ou,none⟩) (some ⟨gc,oc,none⟩) bo to' mr (tk:Int) true)) (by kernel_rfl) (fun _ _ _ _ h _=>h) (jD (by kernel_rfl)) (oJ (by kernel_rfl)) (iV (by kernel_rfl)) ?hs ?he
     case hs =>
      intro i o hi listed a' w' H aU;have hb:=I H.below;obtain⟨t',df⟩:=a';obtain⟨f',rfl,hf⟩:=ZS t' H.tsize;obtain rfl:df=[]:=H.defers;have cG:f' 1 = .slice (some ⟨LB,loff,none⟩) un lcap:=H.sm 1 (by kernel_rfl);have bY:f' 4 = .pointer (some ⟨w.heap.size,0,none⟩):=H.sm 4 (by kernel_rfl);have eP:f' 9 = .int .i64 (wd:Nat):=H.sm 9 (by kernel_rfl);have dO:f' 10 = .int .i64 (k:Nat):=H.sm 10 (by kernel_rfl);have aA:=H.hL aU hf;clear aU H hf;rcases nj i (lI.1 hi).1 with rfl | rfl | rfl | rfl | rfl | rfl | rfl | rfl | rfl | rfl | rfl | rfl | rfl | rfl<;>obtain rfl:=bF hi;rw[bY];have hx:=bZ.o w' hb.o;obtain⟨c0,c1,c2,c3⟩:=hx.c4;clear hx
      rotate_left
      rw[cG]
      rotate_left
      rw[dO]
      rotate_left
      rw[eP]
      rotate_left
      ·have fT:=aA 0 45 rfl rfl
       have fY:=aA 1 46 rfl rfl;have kF:=aA 2 47 rfl rfl;have dC:=aA 3 48 rfl rfl;clear aA;rw[fT,fY,kF,dC];clear fT fY kF dC cG bY eP dO;refine aP rfl ?_
       go_wp2_with fail
       refine(qL.o w' hb.o).mono ?_;rintro e w4 ⟨rfl,b4⟩;have bC:=I b4;clear b4
       go_wp2_with fail
       exact aI ⟨_,rfl,bC.o,rfl⟩
      rw[bY]
      rotate_left
      rw[aA 5 50 rfl rfl]
      rotate_left
      rw[aA 6 51 rfl rfl];have c1:=(bZ.o w' hb.o).cell 1 _ rfl
      rotate_left
      rw[dO]
      rotate_left
      rw[aA 7 52 rfl rfl,aA 8 53 rfl rfl];have kk:=wB.o
      rotate_left
      rw[aA 9 54 rfl rfl];obtain⟨p0,p1,p2⟩:=qK.o w' hb.o
      rotate_left
      rw[eP]
      rotate_left
      ·have fK:=aA 10 55 rfl rfl
       have eE:=aA 11 56 rfl rfl;clear aA;rw[fK,eE];clear fK eE cG bY eP dO;refine aP rfl ?_
       go_wp2_with fail
       refine(dM.o w' hb.o).mono ?_;rintro e w4 ⟨rfl,b4⟩;have bC:=I b4;clear b4
       go_wp2_with fail
       exact aI ⟨_,rfl,bC.o,rfl⟩
      rw[aA 4 49 rfl rfl,aA 12 57 rfl rfl];have aE:=Rt.o
      rotate_left
      all_goals clear aA cG bY eP dO
      all_goals (refine aP rfl ?_;go_wp2_with fail;exact aI ⟨_,rfl,aG _ _,rfl⟩)
     case he =>
      intro listed a' w4 H aD;have kH:=H.done 13 _ 58 rfl (aD 13 (by decide)) rfl;have aK:=I H.below;obtain⟨zf,hz,rfl⟩:=H.actz [45,46,47,48,49,50,51,52,53,54,55,56,57,58] (oL (by kernel_rfl));rw[hz] at kH;clear H aD hz;simp only[fcL,fnL,Act.put,sbT,scS,scZ];rw[show zf 58=_ from kH];clear kH;have L4:=I (LS.o.below aK.o);have V4:=I (VS.o.step aK.o);have N4:=I (NS.o.step aK.o);have X4:=XS.st aK.o;clear aK LS VS NS XS bZ qL qK dM;obtain⟨Ru,b_,hB5⟩:=L4.o.intAt (ey s0.a Vi);have L5:=I (L4.o.intSet (show u<(lA un s0.a).length by rw[ph];exact Vi) (k:Int));rw[YV] at L5;have Rv:Only w4 (w4.setCell ⟨LB,loff+u,none⟩ (.int .i64 (k:Int))) (fun g=>g=LB):=(Only.refl _ _).setCell _ rfl;have V5:=I (V4.o.only Rv (fun e=>Cw.o.2.2.2.2 e.symm));have N5:=I (N4.o.trans (Rv.mono (fun g _ e=>.inl e)));clear Rv hB5 L4 V4 N4 X4
      go_wp2_with fail
      go_ret;exact .inr ⟨rfl,⟨aM s.g k (s.g k++[u]),aM s.a u (k:Int),aM s.t k true,s.r⟩,Gave.enter (Gave.from (u:=u) xQ.o AQ.o bQ.o (Gave.room (sj:={ s with t:=aM s.t k true }) yA.o zH.o OE.o kp.o Ng.o mY.o rfl rfl (by show(s.g k).length<T.cap k wd;rw[oP.o,bm.o];exact aE))),by show OwnK _ _ _ _ _ ((lA un (aM s.a u (k:Int))).flatMap aZ) _;rw[Vj.o];exact L5.o,V5.o,N5.o⟩
    ·have tW:Hid (¬ (n:Int)<((tk:Nat):Int)):=I (by omega)
     refine oK (lF (ZT w.heap.size LB loff lcap k wd n gm om qn qc mn mc un uc cc nb bc nt tc qo (some ⟨gu,ou,none⟩) (some ⟨gc,oc,none⟩) bo to' mr (tk:Int) false)) (by kernel_rfl) (fun _ _ _ _ h _=>h) (jD (by kernel_rfl)) (oJ (by kernel_rfl)) (iV (by kernel_rfl)) ?hs ?he
     case hs =>
      intro i o hi listed a' w' H aU;have hb:=I H.below;obtain⟨t',df⟩:=a';obtain⟨f',rfl,hf⟩:=ZS t' H.tsize;obtain rfl:df=[]:=H.defers;have cG:f' 1 = .slice (some ⟨LB,loff,none⟩) un lcap:=H.sm 1 (by kernel_rfl);have bY:f' 4 = .pointer (some ⟨w.heap.size,0,none⟩):=H.sm 4 (by kernel_rfl);have eP:f' 9 = .int .i64 (wd:Nat):=H.sm 9 (by kernel_rfl);have dO:f' 10 = .int .i64 (k:Nat):=H.sm 10 (by kernel_rfl);have aA:=H.hL aU hf;clear aU H hf;rcases nj i (lI.1 hi).1 with rfl | rfl | rfl | rfl | rfl | rfl | rfl | rfl | rfl | rfl | rfl | rfl | rfl | rfl<;>obtain rfl:=bF hi;rw[bY];have hx:=bZ.o w' hb.o;obtain⟨c0,c1,c2,c3⟩:=hx.c4;clear hx
      rotate_left
      rw[cG]
      rotate_left
      rw[dO]
      rotate_left
      rw[eP]
      rotate_left
      ·have fT:=aA 0 45 rfl rfl
       have fY:=aA 1 46 rfl rfl;have kF:=aA 2 47 rfl rfl;have dC:=aA 3 48 rfl rfl;clear aA;rw[fT,fY,kF,dC];clear fT fY kF dC cG bY eP dO;refine aP rfl ?_
       go_wp2_with fail
       refine(qL.o w' hb.o).mono ?_;rintro e w4 ⟨rfl,b4⟩;have bC:=I b4;clear b4
       go_wp2_with fail
       exact aI ⟨_,rfl,bC.o,rfl⟩
      rw[bY]
      rotate_left
      rw[aA 5 50 rfl rfl]
      rotate_left
      rw[aA 6 51 rfl rfl];have c1:=(bZ.o w' hb.o).cell 1 _ rfl
      rotate_left
      rw[dO]
      rotate_left
      rw[aA 7 52 rfl rfl,aA 8 53 rfl rfl];have kk:=wB.o
      rotate_left
      rw[aA 9 54 rfl rfl];obtain⟨p0,p1,p2⟩:=qK.o w' hb.o
      rotate_left
      rw[eP]
      rotate_left
      ·have fK:=aA 10 55 rfl rfl
       have eE:=aA 11 56 rfl rfl;clear aA;rw[fK,eE];clear fK eE cG bY eP dO;refine aP rfl ?_
       go_wp2_with fail
       refine(dM.o w' hb.o).mono ?_;rintro e w4 ⟨rfl,b4⟩;have bC:=I b4;clear b4
       go_wp2_with fail
       exact aI ⟨_,rfl,bC.o,rfl⟩
      rw[aA 4 49 rfl rfl,aA 12 57 rfl rfl];have aE:=tW.o
      rotate_left
      all_goals clear aA cG bY eP dO
      all_goals (refine aP rfl ?_;go_wp2_with fail;exact aI ⟨_,rfl,aG _ _,rfl⟩)
     case he =>
      intro listed a' w4 H aD;have kH:=H.done 13 _ 58 rfl (aD 13 (by decide)) rfl;have aK:=I H.below;obtain⟨zf,hz,rfl⟩:=H.actz [45,46,47,48,49,50,51,52,53,54,55,56,57,58] (oL (by kernel_rfl));rw[hz] at kH;clear H aD hz;simp only[fcL,fnL,Act.put,sbT,scS,scZ];rw[show zf 58=_ from kH];clear kH;have L4:=I (LS.o.below aK.o);have V4:=I (VS.o.step aK.o);have N4:=I (NS.o.step aK.o);have X4:=XS.st aK.o;clear aK LS VS NS XS bZ qL qK dM;have ub:Hid (¬ (s.g k).length<T.cap k wd):=I (by rw[oP.o,bm.o];have:=tW.o;omega);have Kg:Hid ((s.g k)=gA T wd s0.a k):=I (by rw[Gc.o,Rs.o k]);clear tW
      go_wp2_with fail
      go_loopw [11] (fun iv wr=>∃ (i:Nat) (sj:Plc),iv = .int .i64 i/\i<=un/\Hid (Stuck T.can (fun m=>T.cap m wd) mn (fun v=>v∈gTo T wd s0.a k i) { s with t:=aM s.t k true } sj)/\Hid (∀ v,v∈gTo T wd s0.a k i->v∈sj.r)/\Hid (OwnK wr w0.heap.size 1 un lcap ((lA un s0.a).flatMap aZ) (some ⟨LB,loff,none⟩))/\Hid (aC wr SB 4 (bvs (tA mn sj.t)))/\Hid (Only w wr (fun g=>g=LB\/g=SB))/\Hid (aC wr w.heap.size 137 [.slice qo qn qc,.slice (some ⟨gm,om,none⟩) mn mc,.slice (some ⟨gu,ou,none⟩) un uc,.slice (some ⟨gc,oc,none⟩) un cc])) (fun i _=>(un-intOf i).toNat)
      case atStart=>exact⟨0,{ s with t:=aM s.t k true },rfl,by omega,I (Stuck.refl _ yA.o.reach),I (fun v hv=>by simp[gTo] at hv),L4,V4,N4,X4⟩
      case round =>
       clear L4 V4 N4 X4;obtain⟨i,sj,rfl,hi,tU,eZ,LR,VR,NR,XR⟩:=hrel;have e3:=w1i i (by omega);by_cases aT:i<un
       ·have ii:(i:Int)<un:=by omega
        obtain⟨hc,hf,hB⟩:=LR.o.intAt (ey s0.a aT);obtain⟨y,hy⟩:∃ y,c.us[i]?=some y:=⟨_,aL (by rw[jo.o];exact aT)⟩;obtain⟨g2,o2,rr,qF,uL⟩:=(jJ.o wr (kP.o wr NR.o)).at mN i y hy;cases rr;have p1:wr.cell? ⟨gu,ou+i*4+1,none⟩=some (.int .i64 y.w):=uL 1 _ rfl;rw[zL.o i y hy] at p1;have c2:=XR.o.cell 2 _ rfl;clear hy qF uL hf hB;obtain⟨ai,gr⟩:=exq (s0.a i);obtain⟨wi,AT⟩:=exq (T.win i);have kq:=I gr;have gB:=I AT;rw[gr] at hc;rw[AT] at p1;clear gr AT;by_cases h1:ai=(k:Int)
        ·subst h1
         have q1:(((k:Nat):Int)==((k:Nat):Int))=true:=by simp
         by_cases h2:wd=wi
         ·subst h2
          have q2:(((wd:Nat):Int)==((wd:Nat):Int))=true:=by simp
          have ja:Hid ((s.g k).take (gTo T wd s0.a k i).length=gTo T wd s0.a k i):=I (by rw[Kg.o];exact FJ (by rw[mF.o];omega));have Jf:Hid ((s.g k).take ((gTo T wd s0.a k i).length+1)=gTo T wd s0.a k (i+1)):=I (by rw[Kg.o];exact Zxc (by rw[mF.o];exact aT) gB.o kq.o);have bp:Hid (gTo T wd s0.a k (i+1)=gTo T wd s0.a k i++[i]):=I (pg gB.o kq.o);have qJ:Hid ((s.g k)[(gTo T wd s0.a k i).length]?=some i):=I (by rw[Kg.o];exact Z3l (by rw[mF.o];exact aT) gB.o kq.o);have Rw:Hid (Stuck T.can (fun m=>T.cap m wd) mn (fun v=>v∈(s.g k).take (gTo T wd s0.a k i).length) { s with t:=aM s.t k true } sj):=I (by rw[ja.o];exact tU.o);obtain⟨dU,Jq,yS,Fv,qQ⟩:=QM yA.o kp.o mY.o Rw.o qJ.o;have sU:=I (gN.o i sj wr ⟨kP.o wr NR.o,by rw[wJ.o,mF.o];exact dU,fun m=>by rw[yS,Fv,Gc.o,Vj.o];exact Rs.o m,by rw[mF.o,Fv,Vj.o];exact LR.o,by rw[wJ.o];exact VR.o⟩ (gR Jq (CI (s:=s0) bQ.o.more)));have iz:=I yS;have Gs:=I Fv;have c_:=I qQ;clear dU Jq yS Fv qQ
          go_wp2_with (refine Ba (by rfl) 137 (.tmp 4) rfl w.heap.size ?xt 137 #[.slice qo qn qc,.slice (some ⟨gm,om,none⟩) mn mc,.slice (some ⟨gu,ou,none⟩) un uc,.slice (some ⟨gc,oc,none⟩) un cc] (0,0) _ XR.o Tryz.underlying137 rfl (pD _ _ _ _) ?_;(case xt=>rfl))
          refine sU.o.mono ?_;rintro e w6 ⟨b3,s3,rfl,Vk,l6,v6,n6⟩;have gP:=I Vk;have L6:=I l6;have V6:=I v6;have N6:=I (NR.o.trans n6);have X6:=I (XR.o.only n6 (fun e=>by rcases e with e | e<;>(have:=Cw.o;omega)));clear Vk l6 v6 n6 sU c2 p1 hc LR VR NR XR
          cases b3 with
          | false =>
           obtain⟨qY,Gn⟩:Stuck T.can (fun m=>T.cap m wd) mn (· = i) sj s3/\i∈s3.r:=gP.o;have xZ:Hid (s3.a=s0.a):=I (by rw[qY.a,Gs.o,Vj.o])
           have Js:Hid (Stuck T.can (fun m=>T.cap m wd) mn (fun v=>v∈gTo T wd s0.a k (i+1)) { s with t:=aM s.t k true } s3):=I (by
            have h:=QO Rw.o qJ.o qY
            rwa [Jf.o] at h)
           have Jr:Hid (∀ v,v∈gTo T wd s0.a k (i+1)->v∈s3.r):=I (fun v hv=>by
            rw[bp.o] at hv;rcases kI.1 hv with h | h
            ·exact qY.old.subset (eZ.o v h)
            ·rw[List.mem_singleton.1 h];exact Gn)
           have L7:=L6.o;rw[xZ.o] at L7;have L7:=I L7;clear qY Gn gP L6 tU Rw eZ
           go_wp2_with fail
           go_roundw
           case rel=>exact⟨i+1,s3,by go_num,by omega,Js,Jr,L7,V6,N6,X6⟩
           case measure=>simp only[intOf];omega
          | true =>
           have Yj:Hid (Gave T.can (fun m=>T.cap m wd) mn (fun v=>v<un/\T.win v=wd) i sj s3):=I gP.o;clear gP;obtain⟨Ru,b_,hB5⟩:=L6.o.intAt (ey s3.a Vi);have L5:=I (L6.o.intSet (show u<(lA un s3.a).length by rw[ph];exact Vi) (k:Int));rw[YV] at L5;have Rv:Only w6 (w6.setCell ⟨LB,loff+u,none⟩ (.int .i64 (k:Int))) (fun g=>g=LB):=(Only.refl _ _).setCell _ rfl;have V5:=I (V6.o.only Rv (fun e=>Cw.o.2.2.2.2 e.symm));have N5:=I (N6.o.trans (Rv.mono (fun g _ e=>.inl e)));clear Rv hB5 L6 V6 N6 X6
           go_wp2_with fail
           go_ret;exact⟨true,{ s3 with g:=aM s3.g k ((s3.g k).set (gTo T wd s0.a k i).length u),a:=aM s3.a u (k:Int) },rfl,Gave.enter (Gave.from (u:=u) xQ.o AQ.o bQ.o (Gave.moved yA.o zH.o OE.o kp.o Ng.o mY.o iz.o Gs.o (fun m hm=>tU.o.more m (Kq s k m hm)) c_.o qJ.o Yj.o)),L5.o,V5.o,N5.o⟩
         ·have q2:(((wi:Nat):Int)==((wd:Nat):Int))=false:=by rw[beq_eq_false_iff_ne];omega
          have bp:Hid (gTo T wd s0.a k (i+1)=gTo T wd s0.a k i):=I (YS (fun h=>h2 (by rw[<- h.1,gB.o])));have Js:=I tU.o;have Jr:=I eZ.o;rw[<- bp.o] at Js Jr
          go_wp2_with fail
          go_roundw
          case rel=>exact⟨i+1,sj,by go_num,by omega,Js,Jr,LR,VR,NR,XR⟩
          case measure=>simp only[intOf];omega
        ·have q1:(ai==((k:Nat):Int))=false:=by rw[beq_eq_false_iff_ne];exact h1
         have bp:Hid (gTo T wd s0.a k (i+1)=gTo T wd s0.a k i):=I (YS (fun h=>h1 (by rw[<- h.2,kq.o])));have Js:=I tU.o;have Jr:=I eZ.o;rw[<- bp.o] at Js Jr
         go_wp2_with fail
         go_roundw
         case rel=>exact⟨i+1,sj,by go_num,by omega,Js,Jr,LR,VR,NR,XR⟩
         case measure=>simp only[intOf];omega
       ·have ii:¬ (i:Int)<un:=by omega
        obtain rfl:un=i:=by omega
        have tW:Hid (gTo T wd s0.a k un=s.g k):=I (by rw[Kg.o,<- mF.o];rfl);have AU:=tU.o;have Bq:=eZ.o;rw[tW.o] at AU Bq;have Qo:=I (QP bQ.o kp.o mY.o ub.o AU Bq)
        have Ki:Hid (∀ m,m<k+1->T.can u m=true->sj.t m=true):=I (fun m hm hc=>by
         rcases gQ m k with h | h
         ·exact tU.o.more m (Kq s k m (Qm.o m h hc))
         ·obtain rfl:m=k:=by omega
          exact tU.o.more m (cE _ _ _))
        clear AU Bq
        go_wp2_with fail
        go_roundw
        case rel=>exact⟨k+1,sj,by go_num,by omega,Qo,Ki,LR,VR,NR,XR⟩
        case measure=>simp only[intOf];omega
   ·have Ki:Hid (∀ m,m<k+1->T.can u m=true->s.t m=true):=I (fun m hm hc=>by
     rcases gQ m k with h | h
     ·exact Qm.o m h hc
     ·obtain rfl:m=k:=by omega
      rw[Ng.o] at hc;rw[mY.o]
      cases sb with
      | true=>rfl
      | false=>exact absurd ⟨hc,rfl⟩ Jg)
    cases cb with
    | false =>
     go_wp2_with fail
     go_roundw
     case rel=>exact⟨k+1,s,by go_num,by omega,bQ,Ki,LR,VR,NR,XR⟩
     case measure=>simp only[intOf];omega
    | true =>
     obtain rfl:sb=true:=by
      cases sb with
      | true=>rfl
      | false=>exact absurd ⟨rfl,rfl⟩ Jg
     go_wp2_with fail
     go_roundw
     case rel=>exact⟨k+1,s,by go_num,by omega,bQ,Ki,LR,VR,NR,XR⟩
     case measure=>simp only[intOf];omega
  ·have kk:¬ (k:Int)<mn:=by omega
   obtain rfl:mn=k:=by omega
   go_wp2_with fail
   go_ret;exact .inl ⟨rfl,s,Stuck.place bQ.o Qm.o,by rw[bQ.o.a];exact LR.o,VR.o,NR.o⟩
theorem ZU(c:Crw)(C:List (List Bool))(aJ:ReckOk c C)(w0:World)(ts:List Value)(ht:rL w0 c C ts)(wd LB loff lcap SB:Nat)(wP:wd<=1000)(hS0:w0.heap.size<=SB)(hLS:LB≠SB):∀ (N:Nat) (u:Nat) (s:Plc) (w:World),lM (aR c C).M s<N->PlcI w0 w (aR c C) wd LB loff lcap SB u s ->
  Calls Tryz.prog 197 #[.agg ts.toArray,.slice (some ⟨LB,loff,none⟩) (aR c C).U lcap,.int .i64 (u:Nat),.slice (some ⟨SB,0,none⟩) (aR c C).M (aR c C).M] w fun e w'=>fm w w' (aR c C) wd w0.heap.size LB loff lcap SB u s e
 | 0,u,s,w,hn,_=>absurd hn (jU _)
 | N+1,u,s,w,hn,hp=>Zqv c C aJ w0 w ts ht wd u LB loff lcap SB s wP hS0 hLS hp (fun o sj W hW aE=>ZU c C aJ w0 ts ht wd LB loff lcap SB wP hS0 hLS N o sj W (by omega) hW)
end
section
open Go.RowKit Go.Sort Go.Maps
theorem Z2t(M:Nat):tA M (fun _=>false)=List.replicate M false:=by unfold tA;rw[List.map_const',List.length_range]
theorem Z3t(j:Nat):(lA j (fun _=>(-1:Int))).flatMap aZ++[Value.int .i64 (-1)]=(lA (j+1) (fun _=>(-1:Int))).flatMap aZ:=by
 unfold lA;rw[List.range_succ,List.map_append,List.flatMap_append];rfl
theorem Zyf{w:World}{B k n cap:Nat}{xs:List Value}{ao:Option Addr}(h:OwnK w B k n cap xs ao)(hn:0<n):∃ g off,ao=some ⟨g,off,none⟩:=by
 cases h with
 | nil h1 h2 h3=>omega
 | «at» g off h1 h2 h3 h4=>exact⟨g,off,rfl⟩
theorem Z4u(t:Array Value)(h:t.size=34):∃ f:Nat->Value,t=#[f 0,f 1,f 2,f 3,f 4,f 5,f 6,f 7,f 8,f 9,f 10,f 11,f 12,f 13,f 14,f 15,f 16,f 17,f 18,f 19,f 20,f 21,f 22,f 23,f 24,f 25,f 26,f 27,f 28,f 29,f 30,f 31,f 32,f 33]/\∀ d,t.getD d undef=f d:=by
 obtain⟨l⟩:=t;have hl:l.length=34:=h
 have e:l=(List.range 34).map (fun i=>l.getD i undef):=by
  apply List.ext_getElem
  ·simp[hl]
  ·intro i h1 h2
   simp[List.getD,h1]
 exact⟨fun i=>l.getD i undef,congrArg List.toArray e,fun d=>by simp⟩
def GC(A K LB loff lc k qn qc mn mc un uc cc:Nat)(qo mo uo co:Option Addr)(i:Nat)(W:World)(v:Value):Prop:=match i with
 | 0=>v = .agg #[.slice qo qn qc,.slice mo mn mc,.slice uo un uc,.slice co un cc]
 | 1=>v = .slice (some ⟨LB,loff,none⟩) un lc
 | 2=>v = .int .i64 (k:Nat)
 | 3=>v = .pointer (some ⟨A,0,none⟩)
 | 4=>v = .pointer (some ⟨A,1,none⟩)
 | 5=>v = .slice mo mn mc
 | 6=>v = .int .i64 (mn:Nat)
 | 7=>∃ V,v = .slice (some ⟨V,0,none⟩) mn mn/\K<=V/\aC W V 4 (bvs (List.replicate mn false))
 | _=>True
theorem Zyg(A K LB loff lc k qn qc mn mc un uc cc:Nat)(qo mo uo co:Option Addr):∀ i w w' v,GC A K LB loff lc k qn qc mn mc un uc cc qo mo uo co i w v->Below w.heap.size w w'->GC A K LB loff lc k qn qc mn mc un uc cc qo mo uo co i w' v:=by
 intro i w w' v h hb
 match i with
 | 0=>exact h
 | 1=>exact h
 | 2=>exact h
 | 3=>exact h
 | 4=>exact h
 | 5=>exact h
 | 6=>exact h
 | 7=>obtain⟨V,h1,h2,h3⟩:=h;exact⟨V,h1,h2,h3.step hb⟩
 | k+8=>trivial
theorem GD(w:World)(c:Crw)(C:List (List Bool))(aJ:ReckOk c C)(ts:List Value)(ht:rL w c C ts) :
  Calls Tryz.prog 170 #[.agg ts.toArray] w fun e w'=>e = .returned (.bool (gD (aR c C)))/\Below w.heap.size w w':=by
 have gO:=I (fun LB loff lcap SB wd (wP:wd<=1000) (hS:w.heap.size<=SB) (hLS:LB≠SB) u s W hp=>ZU c C aJ w ts ht wd LB loff lcap SB wP hS hLS (lM (aR c C).M s+1) u s W (Nat.lt_succ_self _) hp)
 have Mv:Hid (∀ k,k<c.us.length->(aR c C).win k<=1000):=I (fun k hk=>by
  have h:=aJ.win c.us[k] (List.getElem_mem hk);show(c.us.getD k ⟨0,0,0,0⟩).w.toNat<=1000;rw[bR,aL hk];show(c.us[k]).w.toNat<=1000
  omega)
 have dW:=aJ.len;have Dr:=aJ.nm;have gV:=aJ.nu;have hU:(aR c C).U=c.us.length:=rfl;have hM:(aR c C).M=c.ms.length:=rfl;obtain⟨qo,qc,mo,mc,uo,uc,co,cc,rfl,-,-,-,-⟩:=ht;rw[dW] at gO ⊢;have mF:=I hU;have wJ:=I hM;clear aJ;generalize aR c C=T at *;rw[hU] at gO;rw[hM] at gO;have dY:Hid (∀ k a p,k<T.U->MstOk T k ⟨fun w=>gA T w a,a⟩->Gave T.can (fun m=>T.cap m (T.win k)) T.M (fun v=>v<T.U/\T.win v=T.win k) k ⟨fun m=>gA T (T.win k) a m,a,fun _=>false,[]⟩ p->MstOk T (k+1) ⟨fun w=>gA T w p.a,p.a⟩):=I (fun k a p hk h key=>(h.nextG hk key).sorted)
 have Gy:Hid (∀ k a p,k<T.U->MstOk T k ⟨fun w=>gA T w a,a⟩->Stuck T.can (fun m=>T.cap m (T.win k)) T.M (· = k) ⟨fun m=>gA T (T.win k) a m,a,fun _=>false,[]⟩ p->k∈p.r->gD T=false):=I (fun k a p hk h key hr=>by
  have h1:=(h.shortG hk key hr).1
  cases e:gD T with
  | false=>rfl
  | true=>obtain⟨f,hf⟩:=(QK T).1 e;exact absurd hf (h1.none f))
 have jf:Hid (∀ a,MstOk T T.U ⟨fun w=>gA T w a,a⟩->gD T=true):=I (fun a h=>(QK T).2 ⟨_,h.legal⟩);have yY:Hid (∀ k a,k<T.U->MstOk T k ⟨fun w=>gA T w a,a⟩->PlcCall T.can (fun m=>T.cap m (T.win k)) T.M (fun v=>v<T.U/\T.win v=T.win k) k ⟨fun m=>gA T (T.win k) a m,a,fun _=>false,[]⟩):=I (fun k a hk h=>h.call hk);have d_:Hid (MstOk T 0 ⟨fun w=>gA T w (fun _=>(-1:Int)),fun _=>(-1:Int)⟩):=I (CL T).sorted;rw[hU] at dY Gy jf yY;clear hU hM dW;generalize gD T=cX at *;generalize c.qs.length=qn at *;generalize c.ms.length=mn at *;generalize c.us.length=un at *;have X1:=hnw w 137 [.slice qo qn qc,.slice mo mn mc,.slice uo un uc,.slice co un cc];have B1:=I (bwA w (.cells #[.slice qo qn qc,.slice mo mn mc,.slice uo un uc,.slice co un cc] 137))
 go_enter Tryz.func170,Tryz.ntmps170
 go_upto_region 1 with(fail)
 generalize w.alloc (.cells #[.slice qo qn qc,.slice mo mn mc,.slice uo un uc,.slice co un cc] 137)=w1 at *;have bx:=bwA w1 (.cells #[] 3);have O2:=I (OwnK.empty w1 (w.heap.size+1) 3 X1.o.lt);have X2:=X1.st bx;have B2:=B1.tr bx;clear bx X1 B1
 go_upto_region 3 with(fail)
 generalize w1.alloc (.cells #[] 3)=w2 at *
 go_loopw [3,4] (fun lv jv wr=>∃ (j:Nat) (lo:Option Addr) (lc:Nat),jv = .int .i64 j/\j<=un/\lv = .slice lo j lc/\Hid (OwnK wr (w.heap.size+1) 1 j lc ((lA j (fun _=>(-1:Int))).flatMap aZ) lo)/\Hid (Below w.heap.size w wr)/\Hid (aC wr w.heap.size 137 [.slice qo qn qc,.slice mo mn mc,.slice uo un uc,.slice co un cc])) (fun _ j _=>(un-intOf j).toNat)
 case atStart=>exact⟨0,_,0,rfl,by omega,rfl,O2,B2,X2⟩
 case round =>
  clear O2 B2 X2;obtain⟨j,lo,lc,rfl,hj,rfl,O6,B6,X6⟩:=hrel;have e3:=w1i j (by omega);have c3:=X6.o.cell 3 _ rfl;by_cases hju:j<un
  ·have jj:(j:Int)<un:=by omega
   have cU:=I (Z3t j);have lK:Hid (∀ g,blk lo=some g->w.heap.size+1<=g):=I (fun g hg=>(O6.o.blk_lt hg).1);generalize Gt:(lA j (fun _=>(-1:Int))).flatMap aZ=pr at *;clear Gt
   go_wp2_with (at_builtin;go_loud (refine jM 33 3 (.int .i64 0) 1 8 Tryz.underlying33 sE rfl (by omega) (by omega) wr (w.heap.size+1) rfl (.tmp 14) (.tmp 15) rfl lo lc j pr ?q1 O6.o X6.o.lt 1 1 #[.int .i64 (-1)] 3 ?q2 rfl (by omega) ?q3 ?q4 ?_);(case q1=>rfl);(case q2=>rfl);(case q3=>simp[Value.oneCell']);(case q4=>omega);intro g5 off5 c5 wa o8 aX b8 bW;have O9:=I o8;have X9:=I (X6.o.grownBy aX (fun e=>by have:=lK.o _ e;omega));have B9:=I (B6.o.trans (b8.mono (by omega)));clear o8 aX b8 bW)
   go_roundw
   case rel=>exact⟨j+1,some ⟨g5,off5,none⟩,c5,by go_num,by omega,rfl,I (by rw[<- cU.o];exact O9.o),B9,X9⟩
   case measure=>simp only[intOf];omega
  ·have jj:¬ (j:Int)<un:=by omega
   obtain rfl:un=j:=by omega
   have sd:Hid (∀ g,blk lo=some g->w.heap.size+1<=g):=I (fun g hg=>(O6.o.blk_lt hg).1);have O7:=I (O6.o.lower (Nat.le_succ w.heap.size));clear O6
   go_upto_region 7 with(fail)
   clear c3
   go_loopw [5] (fun kv wr=>∃ (k:Nat) (a:Nat->Int),kv = .int .i64 k/\k<=un/\Hid (MstOk T k ⟨fun w=>gA T w a,a⟩)/\Hid (OwnK wr w.heap.size 1 un lc ((lA un a).flatMap aZ) lo)/\Hid (Below w.heap.size w wr)/\Hid (aC wr w.heap.size 137 [.slice qo qn qc,.slice mo mn mc,.slice uo un uc,.slice co un cc])) (fun k _=>(un-intOf k).toNat)
   case atStart=>exact⟨0,(fun _=>(-1:Int)),rfl,by omega,d_,O7,B6,X6⟩
   case round =>
    clear O7 B6 X6;obtain⟨k,a,rfl,hk,Ud,OL,BR,XR⟩:=hrel;have e3:=w1i k (by omega);have c3:=XR.o.cell 3 _ rfl;by_cases Mp:k<un
    ·have kk:(k:Int)<un:=by omega
     obtain⟨LB,loff,fI⟩:=Zyf OL.o (by omega);subst fI;have wD:=I (sd.o LB rfl);have Rt:=I (OL.o.blk_lt (g:=LB) rfl).2;have bZ:=I (fun W (hW:Below wr.heap.size wr W)=>XR.o.step hW);have vq:=I (Mv.o k Mp)
     go_upto_region 9 with(fail)
     clear c3;refine Ff 8 1 (GC w.heap.size wr.heap.size LB loff lc k qn qc mn mc un uc cc qo mo uo co) (by kernel_rfl) rfl (Zyg w.heap.size wr.heap.size LB loff lc k qn qc mn mc un uc cc qo mo uo co) (jD (by kernel_rfl)) (Fe (by kernel_rfl)) (iV (by kernel_rfl)) (Fg (by kernel_rfl)) ?hs ?he
     case hs =>
      intro i o aT hi listed a' w' H bA aU;have hb:=I H.below;obtain⟨t',df⟩:=a';obtain⟨f',rfl,-⟩:=Z4u t' H.tsize;obtain rfl:df=[]:=H.defers;have cG:f' 1 = .pointer (some ⟨w.heap.size,0,none⟩):=bA 1 (gK (by kernel_rfl));have bB:f' 3 = .slice (some ⟨LB,loff,none⟩) un lc:=bA 3 (gK (by kernel_rfl));have cD:f' 5 = .int .i64 (k:Nat):=bA 5 (gK (by kernel_rfl));have aA:=H.hC aU;clear aU H bA;have bP:i=0\/i=1\/i=2\/i=3\/i=4\/i=5\/i=6\/i=7:=XC i aT;clear aT;rcases bP with rfl | rfl | rfl | rfl | rfl | rfl | rfl | rfl<;>obtain rfl:=bF hi;rw[cG];have hx:=bZ.o w' hb.o;obtain⟨c0,c1,c2,c3⟩:=hx.c4;clear hx
      rotate_left
      rw[bB]
      rotate_left
      rw[cD]
      rotate_left
      rw[cG]
      rotate_left
      rw[show f' 27=_ from aA 3 27 rfl]
      rotate_left
      rw[show f' 28=_ from aA 4 28 rfl];have c1:=(bZ.o w' hb.o).cell 1 _ rfl
      rotate_left
      rw[show f' 29=_ from aA 5 29 rfl]
      rotate_left
      ·have iL:f' 30=_:=aA 6 30 rfl
       clear aA;rw[iL];clear iL cG bB cD;have gW:=run_make_row' (P:=Tryz.prog) 87 4 (.bool false) 1 Tryz.underlying87 Kx rfl .i64 .i64 mn (by omega) (by omega);rw[Vv] at gW;have bx:=bwA w' (.cells (bvs (List.replicate mn false)).toArray 4);have HV:=I (aC.new w' 4 (bvs (List.replicate mn false)));have BX:=I bx;clear bx;refine aP rfl ?_
       go_wp2_with fail
       exact aI ⟨_,rfl,BX.o,w'.heap.size,rfl,hb.o.size,HV.o⟩
      all_goals clear aA cG bB cD
      all_goals (refine aP rfl ?_;go_wp2_with fail;exact aI ⟨_,rfl,aG _ _,rfl⟩)
     case he =>
      intro listed a' w4 H bA aD;have rC:=H.done 0 _ 24 rfl (aD 0 (by decide)) rfl;have mR:=H.done 1 _ 25 rfl (aD 1 (by decide)) rfl;have uG:=H.done 2 _ 26 rfl (aD 2 (by decide)) rfl;have rZ:=H.done 7 _ 31 rfl (aD 7 (by decide)) rfl;have aK:=I H.below;obtain⟨zf,hz,rfl⟩:=H.actNz bA [24,25,26,27,28,29,30,31] (Fh (by kernel_rfl));rw[hz] at rC mR uG rZ;clear H aD bA hz;simp only[fcL,fnL,Act.put,sbT,scS,scZ];rw[show zf 24=_ from rC];clear rC;rw[show zf 25=_ from mR];clear mR;rw[show zf 26=_ from uG];clear uG;obtain⟨V,e7,hKV,hV⟩:=rZ;rw[e7];clear e7;have L4:=I (OL.o.below aK.o);have X4:=XR.st aK.o;have B4:=BR.tr aK.o;have Gz:Hid (wr.heap.size<=V/\LB≠V/\w.heap.size<=V/\w.heap.size<V):=I ⟨hKV,by have:=Rt.o;omega,by have:=BR.o.size;omega,by have:=XR.o.lt;omega⟩;have sU:=I (gO.o LB loff lc V (T.win k) vq.o Gz.o.2.2.1 Gz.o.2.1 k ⟨fun m=>gA T (T.win k) a m,a,fun _=>false,[]⟩ w4 ⟨B4.o,by have h:=yY.o k a Mp Ud.o;rw[mF.o];exact h,fun m=>rfl,by rw[mF.o];exact L4.o,by rw[wJ.o,Z2t];exact hV⟩);clear aK hV hKV bZ OL XR BR;refine nE (aP rfl ?_)
      go_wp2_with fail
      refine sU.o.mono ?_;rintro e w6 ⟨b3,s3,rfl,Vk,l6,-,n6⟩;rw[wJ.o,mF.o] at Vk;rw[mF.o] at l6;have L6:=I l6;have X6:=I (X4.o.only n6 (fun e=>by have:=wD.o;have:=Gz.o;have:=X4.o.lt;rcases e with e | e<;>omega));have B6:=I (Only.later B4.o n6 (fun g hg=>by have:=wD.o;have:=Gz.o;rcases hg with rfl | rfl<;>omega));have gP:=I Vk;clear l6 n6 Vk sU X4 B4 L4
      cases b3 with
      | true =>
       have fW:=I (dY.o k a s3 Mp Ud.o (by rw[wJ.o];exact gP.o))
       go_wp2_with fail
       refine aI (nE (aP rfl ?_))
       go_wp2_with fail
       refine aI (vM ?_)
       go_wp2_with fail
       go_roundw
       case rel=>exact⟨k+1,s3.a,by go_num,by omega,fW,L6,B6,X6⟩
       case measure=>simp only[intOf];omega
      | false =>
       obtain⟨qY,Gn⟩:Stuck T.can (fun m=>T.cap m (T.win k)) mn (· = k) ⟨fun m=>gA T (T.win k) a m,a,fun _=>false,[]⟩ s3/\k∈s3.r:=gP.o;have Jp:=I (Gy.o k a s3 Mp Ud.o (by rw[wJ.o];exact qY) Gn);clear qY Gn
       go_wp2_with fail
       refine aI (nE (aP rfl ?_))
       go_wp2_with fail
       refine aI (vM ?_)
       go_wp2_with fail
       go_ret;exact⟨by rw[Jp.o];rfl,B6.o⟩
    ·have kk:¬ (k:Int)<un:=by omega
     obtain rfl:k=un:=by omega
     have Jp:=I (jf.o a Ud.o)
     go_wp2_with fail
     go_ret;exact⟨by rw[Jp.o];rfl,BR.o⟩
theorem ZV(w:World)(c:Crw)(C:List (List Bool))(aJ:ReckOk c C)(ts:List Value)(ht:rL w c C ts)(u:Nat)(hu:u<c.us.length) :
  Calls Tryz.prog 130 #[.agg ts.toArray,.int .i64 (u:Nat)] w fun e w'=>(∃ o cap,e = .returned (.slice o (iN c C u).length cap)/\OwnK w' w.heap.size 1 (iN c C u).length cap (bE (iN c C u)) o)/\Below w.heap.size w w':=by
 have dW:=aJ.len;have Dr:=aJ.nm;have gV:=aJ.nu;have jH:=I (fun k (hk:k<c.ms.length) W (hW:Below w.heap.size w W)=>ZQ W c C ts (ht.below hW) aJ.row (by rw[dW];exact gV) Dr u k (by rw[dW];exact hu) hk);have Ct:=I (fun k W ts' (h:rL W c (bV c C u k) ts')=>GD W c (bV c C u k) (aJ.fix u k) ts' h);have lB:Hid (∀ k,lJ c C u k=((aR c C).can u k&&gD (aR c (bV c C u k)))):=I (fun k=>rfl);have Lu:Hid (iN c C u=(List.range c.ms.length).filter (lJ c C u)):=I rfl;obtain⟨ru,fJ⟩:∃ y,C[u]?=some y:=⟨_,aL (by rw[dW];exact hu)⟩;have eX:Hid (ru.length=c.ms.length):=I (aJ.row ru (bU fJ))
 have vA:Hid (∀ k,k<ru.length->ru[k]?=some ((aR c C).can u k)):=I (fun k hk=>by
  show ru[k]?=some ((C.getD u []).getD k false);rw[bR (l:=C),fJ,aL hk];show _=some (ru.getD k false)
  rw[bR,aL hk];rfl)
 obtain⟨qo,qc,mo,mc,uo,uc,co,cc,rfl,-,-,-,rO⟩:=ht;have oE:=I (fun W (hW:Below w.heap.size w W)=>(rO.below hW).at u ru fJ);rw[dW] at jH ⊢;clear rO aJ fJ;generalize (aR c C).can u=cn at *;generalize iN c C u=PF at *;generalize lJ c C u=pb at *;generalize c.qs.length=qn at *;generalize c.ms.length=mn at *;generalize c.us.length=un at *;clear dW;have X1:=hnw w 137 [.slice qo qn qc,.slice mo mn mc,.slice uo un uc,.slice co un cc];have B1:=I (bwA w (.cells #[.slice qo qn qc,.slice mo mn mc,.slice uo un uc,.slice co un cc] 137))
 go_enter Tryz.func130,Tryz.ntmps130
 go_upto_region 1 with(fail)
 generalize w.alloc (.cells #[.slice qo qn qc,.slice mo mn mc,.slice uo un uc,.slice co un cc] 137)=w1 at *;have bx:=bwA w1 (.cells #[] 3);have O2:=I (OwnK.empty w1 (w.heap.size+1) 3 X1.o.lt);have X2:=X1.st bx;have B2:=B1.tr bx;clear bx X1 B1
 go_upto_region 3 with(fail)
 generalize w1.alloc (.cells #[] 3)=w2 at *
 have uu:(u:Int)<un:=by omega
 go_loopw [5,6] (fun lv kv wr=>∃ (k n:Nat) (lo:Option Addr) (lc:Nat),kv = .int .i64 k/\k<=mn/\n<=k/\lv = .slice lo n lc/\Hid (((List.range k).filter pb).length=n)/\Hid (OwnK wr (w.heap.size+1) 1 n lc (bE ((List.range k).filter pb)) lo)/\Hid (Below w.heap.size w wr)/\Hid (aC wr w.heap.size 137 [.slice qo qn qc,.slice mo mn mc,.slice uo un uc,.slice co un cc])) (fun _ k _=>(mn-intOf k).toNat)
 case atStart=>exact⟨0,0,_,0,rfl,by omega,by omega,rfl,I rfl,O2,B2,X2⟩
 case round =>
  clear O2 B2 X2;obtain⟨k,n,lo,lc,rfl,hk,hn,rfl,HN,O6,B6,X6⟩:=hrel;have e3:=w1i k (by omega);have c1:=X6.o.cell 1 _ rfl;by_cases oR:k<mn
  ·have kk:(k:Int)<mn:=by omega
   have c3:=X6.o.cell 3 _ rfl;obtain⟨gc,oc,bo,bc,iE,mU,dG,jZ⟩:=oE.o wr B6.o;rw[eX.o] at dG;obtain⟨g2,o2,dE,qF,eK⟩:=jZ.at Su k _ (vA.o k (by rw[eX.o];exact oR));have y1:=eK 0 _ rfl;rw[Nat.mul_one,Nat.add_zero] at y1;have gH:=lB.o k;obtain⟨cb,rF⟩:=exq (cn k);rw[rF] at y1 gH;have gH:=I gH;have rQ:=I iE;subst dE;have dY:=I (We pb k);have jH:=I (jH.o k oR wr B6.o);subst iE;clear eK rF qF jZ mU
   cases cb with
   | false =>
    have fC:Hid (pb k=false):=I (by rw[gH.o];rfl);clear gH
    go_wp2_with fail
    clear y1 c1 c3 dG;go_roundw
    case rel=>exact⟨k+1,n,lo,lc,by go_num,by omega,by omega,rfl,I (by rw[dY.o,fC.o];exact HN.o),I (by rw[dY.o,fC.o];exact O6.o),B6,X6⟩
    case measure=>simp only[intOf];omega
   | true =>
    obtain⟨fk,lZ⟩:=exq (gD (aR c (bV c C u k)));have Ct:=I (fun W ts' h=>Ct.o k W ts' h);rw[lZ] at Ct;have fC:Hid (pb k=fk):=I (by rw[gH.o,lZ];rfl);clear gH lZ
    go_wp2_with (refine Ba (by rfl) 137 (.tmp 2) rfl w.heap.size ?xt 137 #[.slice qo qn qc,.slice mo mn mc,.slice uo un uc,.slice (some ⟨gc,oc,none⟩) un cc] (0,0) _ X6.o Tryz.underlying137 rfl (pD _ _ _ _) ?_;(case xt=>rfl))
    refine jH.o.mono ?_;rintro e w3 ⟨⟨ts',rfl,OF⟩,b3⟩;have OG:=I (Ct.o w3 ts' OF);have B3:=I b3;clear OF b3 jH Ct
    go_wp2_with fail
    refine OG.o.mono ?_;rintro e w4 ⟨rfl,b4⟩;have kr:=B3.tr b4;have O7:=I (O6.o.below kr.o);have B7:=B6.tr kr.o;have X7:=X6.st kr.o;clear b4 B3 kr OG O6 B6 X6 y1 c1 c3 dG
    cases fk with
    | false =>
     go_wp2_with fail
     go_roundw
     case rel=>exact⟨k+1,n,lo,lc,by go_num,by omega,by omega,rfl,I (by rw[dY.o,fC.o];exact HN.o),I (by rw[dY.o,fC.o];exact O7.o),B7,X7⟩
     case measure=>simp only[intOf];omega
    | true =>
     have tE:Hid (((List.range (k+1)).filter pb)=(List.range k).filter pb++[k]):=I (by rw[dY.o,fC.o];rfl);have cU:Hid (bE ((List.range k).filter pb)++[Value.int .i64 ((k:Nat):Int)]=bE ((List.range (k+1)).filter pb)):=I (by rw[tE.o];exact Hs _ _);have lK:Hid (∀ g,blk lo=some g->w.heap.size+1<=g):=I (fun g hg=>(O7.o.blk_lt hg).1);have sZ:Hid (((List.range (k+1)).filter pb).length=n+1):=I (by rw[tE.o,gL,HN.o];rfl);generalize Gt:bE ((List.range k).filter pb)=pr at *;clear Gt
     go_wp2_with (at_builtin;go_loud (refine jM 33 3 (.int .i64 0) 1 8 Tryz.underlying33 sE rfl (by omega) (by omega) w4 (w.heap.size+1) rfl (.tmp 31) (.tmp 33) rfl lo lc n pr ?q1 O7.o X7.o.lt 1 1 #[.int .i64 (k:Int)] 3 ?q2 rfl (by omega) ?q3 ?q4 ?_);(case q1=>rfl);(case q2=>rfl);(case q3=>simp[Value.oneCell']);(case q4=>omega);intro g5 off5 c5 wa o8 aX b8 bW;have O9:=I o8;have X9:=I (X7.o.grownBy aX (fun e=>by have:=lK.o _ e;omega));have B9:=I (B7.o.trans (b8.mono (by omega)));clear o8 aX b8 bW)
     go_roundw
     case rel=>exact⟨k+1,n+1,some ⟨g5,off5,none⟩,c5,by go_num,by omega,by omega,rfl,sZ,I (by rw[<- cU.o];exact O9.o),B9,X9⟩
     case measure=>simp only[intOf];omega
  ·have kk:¬ (k:Int)<mn:=by omega
   obtain rfl:mn=k:=by omega
   have O7:=I (O6.o.lower (Nat.le_succ w.heap.size));have HE:Hid (PF=(List.range mn).filter pb):=I Lu.o;clear O6
   go_wp2_with fail
   go_ret;exact⟨⟨lo,lc,by rw[HE.o,HN.o];rfl,by rw[HE.o,HN.o];exact O7.o⟩,B6.o⟩
end
section
open Go.RowKit Go.Sort Go.Maps
theorem ZW(w:World)(c:Crw)(C:List (List Bool))(aJ:ReckOk c C)(ts:List Value)(ht:rL w c C ts) :
  Calls Tryz.prog 123 #[.agg ts.toArray] w fun e w'=>vS w c C e w':=by
 have Dr:=aJ.nm;have gV:=aJ.nu;have HF:=I (fun W (hW:Below w.heap.size w W)=>GD W c C aJ ts (ht.below hW));obtain⟨qo,qc,mo,mc,uo,uc,co,cc,rfl,dL,cN,dN,rO⟩:=ht;rw[aJ.len] at HF ⊢
 have jH:Hid (∀ W C' co cc (D:Nat->Prop) u k,(∀ g,D g->g<W.heap.size)->kV W D C' co->ReckOk c C'->u<c.us.length->k<c.ms.length->Calls Tryz.prog 115 #[.agg #[.slice qo c.qs.length qc,.slice mo c.ms.length mc,.slice uo c.us.length uc,.slice co c.us.length cc],.int .i64 (u:Nat),.int .i64 (k:Nat)] W fun e w'=>(∃ co' cc',e = .returned (.agg #[.slice qo c.qs.length qc,.slice mo c.ms.length mc,.slice uo c.us.length uc,.slice co' c.us.length cc'])/\kV w' D (bV c C' u k) co')/\Below W.heap.size W w'):=I (fun W C' co cc D u k hD hr h2 hu hk=>by
  have h:=qb W c C' qo mo uo co qc mc uc cc D hD hr h2.row (by rw[h2.len];exact gV) Dr u k (by rw[h2.len];exact hu) hk
  rwa [h2.len] at h)
 have Ct:Hid (∀ W C' co cc,Below w.heap.size w W->lY W C' co->ReckOk c C'->Calls Tryz.prog 170 #[.agg #[.slice qo c.qs.length qc,.slice mo c.ms.length mc,.slice uo c.us.length uc,.slice co c.us.length cc]] W fun e w'=>e = .returned (.bool (gD (aR c C')))/\Below W.heap.size W w'):=I (fun W C' co cc hW hr h2=>GD W c C' h2 [.slice qo c.qs.length qc,.slice mo c.ms.length mc,.slice uo c.us.length uc,.slice co c.us.length cc] ⟨qo,qc,mo,mc,uo,uc,co,cc,by rw[h2.len],dL.below hW,cN.below hW,dN.below hW,hr⟩)
 have sV:Hid (∀ W C' co u,lY W C' co->ReckOk c C'->u<c.us.length->∃ gc oc bo bc,co=some ⟨gc,oc,none⟩/\W.cell? ⟨gc,oc+u,none⟩=some (.slice bo c.ms.length bc)/\∀ k,k<c.ms.length->∃ g2 o2,bo=some ⟨g2,o2,none⟩/\W.cell? ⟨g2,o2+k,none⟩=some (.bool ((aR c C').can u k))):=I (fun W C' co u hr h2 hu=>by
  obtain⟨ru,fJ⟩:∃ y,C'[u]?=some y:=⟨_,aL (by rw[h2.len];exact hu)⟩;have gC:=h2.row ru (bU fJ);obtain⟨gc,oc,bo,bc,iE,mU,fS,iA⟩:=hr.at u ru fJ;rw[gC] at fS;refine⟨gc,oc,bo,bc,iE,fS,fun k hk=>?_⟩
  have sI:k<ru.length:=by rw[gC];exact hk
  obtain⟨g2,o2,dE,qF,eK⟩:=iA.at Su k ru[k] (aL sI);have y1:=eK 0 _ rfl;rw[Nat.mul_one,Nat.add_zero] at y1;refine⟨g2,o2,dE,?_⟩;rw[y1];show _=some (Value.bool ((C'.getD u []).getD k false));rw[bR (l:=C'),fJ];show _=some (Value.bool (ru.getD k false))
  rw[bR,aL sI];rfl)
 have HQ:Hid (∀ fb,gD (aR c C)=fb->∀ e w',vS w c C e w'↔Below w.heap.size w w'/\if fb=true then ∃ o cap,e = .returned (.tuple #[.slice o (fO c c.us.length 0 C []).length cap,.bool true])/\OwnK w' w.heap.size 1 (fO c c.us.length 0 C []).length cap (bE (fO c c.us.length 0 C [])) o else e = .returned (.tuple #[.slice none 0 0,.bool false])):=I (fun fb h e w'=>by
  unfold vS
  rw[h])
 have bQ:Hid (∀ n u C' out m,lJ c C' u m=true->m<c.ms.length->(∀ j,j<m->lJ c C' u j=false)->fO c (n+1) u C' out=fO c n (u+1) (bV c C' u m) (out++[m])):=I (fun n u C' out m h1 h2 h3=>by
  have:xA c C' u=some m:=by
   unfold xA;rw[List.find?_range_eq_some];exact⟨h1,List.mem_range.2 h2,fun j hj=>by rw[h3 j hj];rfl⟩
  show(match xA c C' u with | some m=>_ | none=>_)=_
  rw[this])
 have zF:Hid (∀ n u C' out,(∀ j,j<c.ms.length->lJ c C' u j=false)->fO c (n+1) u C' out=fO c n (u+1) C' out):=I (fun n u C' out h=>by
  have:xA c C' u=none:=by
   unfold xA;rw[List.find?_range_eq_none]
   exact fun j hj=>by rw[h j hj];rfl
  show(match xA c C' u with | some m=>_ | none=>_)=_
  rw[this])
 have Pw:=I rO;have cV:=I aJ;clear dL cN dN rO aJ;obtain⟨fb,wM⟩:=exq (gD (aR c C));rw[wM] at HF;have HQ:=I (HQ.o fb wM);clear wM;obtain⟨cX,hRES⟩:=exq (fO c c.us.length 0 C []);rw[hRES] at HQ;have yZ:=I hRES;clear hRES;generalize c.qs.length=qn at *;generalize c.ms.length=mn at *;generalize c.us.length=un at *;have X1:=hnw w 137 [.slice qo qn qc,.slice mo mn mc,.slice uo un uc,.slice co un cc];have B1:=I (bwA w (.cells #[.slice qo qn qc,.slice mo mn mc,.slice uo un uc,.slice co un cc] 137))
 go_enter Tryz.func123,Tryz.ntmps123
 go_upto_region 1 with(fail)
 generalize w.alloc (.cells #[.slice qo qn qc,.slice mo mn mc,.slice uo un uc,.slice co un cc] 137)=w1 at *
 go_wp2_with (refine wpList_load_row rfl 137 (.tmp 1) rfl (w.heap.size) ?xt 137 #[.slice qo qn qc,.slice mo mn mc,.slice uo un uc,.slice co un cc] (0,0) _ X1.o Tryz.underlying137 rfl (pD _ _ _ _) ?_;(case xt=>rfl))
 refine(HF.o w1 B1.o).mono ?_;rintro e w2 ⟨rfl,b2⟩;have B2:=B1.tr b2;have X2:=X1.st b2;clear b2 B1 X1 HF
 cases fb with
 | false =>
  go_wp2_with fail
  go_ret2
  rw[HQ.o];exact⟨B2.o,rfl⟩
 | true =>
  have Bu:Hid (∀ e w',Below w.heap.size w w'->(∃ o cap,e = .returned (.tuple #[.slice o cX.length cap,.bool true])/\OwnK w' w.heap.size 1 cX.length cap (bE cX) o)->vS w c C e w'):=I (fun e w' h1 h2=>(HQ.o e w').2 ⟨h1,by rw[if_pos rfl];exact h2⟩);clear HQ
  go_upto_region 3 with(fail)
  have bx:=bwA w2 (.cells #[] 3);have O3:=I (OwnK.empty w2 (w.heap.size+1) 3 X2.o.lt);have X3:=X2.st bx;have B3:=B2.tr bx
  have R3:Hid (kV (w2.alloc (.cells #[] 3)) (fun g=>g=w.heap.size\/blk (some ⟨w2.heap.size,0,none⟩)=some g) C co):=I (kV.only (D:=fun g=>w.heap.size<=g) (Pw.o.rowsD (fun g hg=>by omega)) (Only.of_below B3.o (p:=fun _=>False)) (fun g _ e=>e.elim) (fun g hg e=>by
   have:=B2.o.size;rcases e with e | e
   ·omega
   ·have e:w2.heap.size=g:=bF e
    omega))
  clear bx X2 B2 Pw
  go_upto_region 5 with(fail)
  generalize w2.alloc (.cells #[] 3)=w3 at *
  go_loopw [4,5] (fun ov kv wr=>∃ (u n:Nat) (o:Option Addr) (cap:Nat) (co:Option Addr) (cc:Nat) (C':List (List Bool)) (out:List Nat),kv = .int .i64 u/\ov = .slice o n cap/\u<=un/\n<=u/\Hid (out.length=n)/\Hid (OwnK wr (w.heap.size+1) 1 n cap (bE out) o)/\Hid (Below w.heap.size w wr)/\Hid (aC wr w.heap.size 137 [.slice qo qn qc,.slice mo mn mc,.slice uo un uc,.slice co un cc])/\Hid (kV wr (fun g=>g=w.heap.size\/blk o=some g) C' co)/\Hid (ReckOk c C')/\Hid (fO c (un-u) u C' out=cX)) (fun _ k _=>(un-intOf k).toNat)
  case atStart=>exact⟨0,0,_,0,co,cc,C,[],rfl,rfl,by omega,aO _,I rfl,O3,B3,X3,R3,cV,yZ⟩
  case round =>
   clear O3 B3 X3 R3 cV yZ;obtain⟨u,n,o,cap,co,cc,C',out,rfl,rfl,hu,hn,HN,HO,HB,HX,HR,HK,HE⟩:=hrel;have e2:=w1i u (by omega);have c3:=HX.o.cell 3 _ rfl;by_cases Rx:u<un
   ·have uu:(u:Int)<un:=by omega
    obtain⟨rest,sW⟩:∃ y,un-u=y+1:=⟨un-(u+1),by omega⟩
    have nZ:un-(u+1)=rest:=by omega
    have sX:=I nZ;rw[sW] at HE;clear sW nZ
    go_upto_region 9 with(fail)
    clear c3;generalize wr=wz at *
    go_loopw [4,6,7] (fun ov fv mv wr=>∃ (k n2:Nat) (o2:Option Addr) (cap2:Nat) (Du:Option Addr) (Kj:Nat) (C2:List (List Bool)) (out2:List Nat) (fb:Bool),mv = .int .i64 k/\fv = .bool fb/\ov = .slice o2 n2 cap2/\k<=mn/\n2<=u+1/\Hid (out2.length=n2)/\Hid (OwnK wr (w.heap.size+1) 1 n2 cap2 (bE out2) o2)/\Hid (Below w.heap.size w wr)/\Hid (aC wr w.heap.size 137 [.slice qo qn qc,.slice mo mn mc,.slice uo un uc,.slice Du un Kj])/\Hid (kV wr (fun g=>g=w.heap.size\/blk o2=some g) C2 Du)/\Hid (ReckOk c C2)/\Hid (fb=false->n2<=u/\C2=C'/\out2=out/\∀ j,j<k->lJ c C' u j=false)/\Hid (fb=true->fO c rest (u+1) C2 out2=cX)) (fun _ _ k _=>(mn-intOf k).toNat)
    case atStart=>exact⟨0,n,o,cap,co,cc,C',out,false,rfl,rfl,rfl,by omega,by omega,HN,HO,HB,HX,HR,HK,I (fun _=>⟨hn,rfl,rfl,fun j hj=>by omega⟩),I (fun h=>by cases h)⟩
    case round =>
     clear HN HO HB HX HR HK;obtain⟨k,n2,o2,cap2,Du,Kj,C2,out2,fb,rfl,rfl,rfl,hk,Gm,HN,HO,HB,HX,HR,HK,AX,wC⟩:=hrel;have e3:=w1i k (by omega);have c1:=HX.o.cell 1 _ rfl
     cases fb with
     | true =>
      have iY:Hid (fO c (un-(u+1)) (u+1) C2 out2=cX):=I (by rw[sX.o];exact wC.o rfl);clear AX wC;by_cases oR:k<mn
      ·have kk:(k:Int)<mn:=by omega
       go_wp2_with fail
       clear c1;go_roundw
       case rel=>exact⟨u+1,n2,o2,cap2,Du,Kj,C2,out2,by go_num,rfl,by omega,by omega,HN,HO,HB,HX,HR,HK,iY⟩
       case measure=>simp only[intOf];omega
      ·have kk:¬ (k:Int)<mn:=by omega
       go_wp2_with fail
       clear c1;go_roundw
       case rel=>exact⟨u+1,n2,o2,cap2,Du,Kj,C2,out2,by go_num,rfl,by omega,by omega,HN,HO,HB,HX,HR,HK,iY⟩
       case measure=>simp only[intOf];omega
     | false =>
      obtain⟨dH,rfl,rfl,hj⟩:=AX.o rfl;have HJ:=I hj;clear AX wC hj;by_cases oR:k<mn
      ·have kk:(k:Int)<mn:=by omega
       have HA:Hid (w.heap.size<wr.heap.size):=I HX.o.lt;have lK:Hid (∀ g,blk o2=some g->w.heap.size+1<=g/\g<wr.heap.size):=I (fun g hg=>HO.o.blk_lt hg)
       have pG:=I (jH.o wr C2 Du Kj (fun g=>g=w.heap.size\/blk o2=some g) u k (fun g e=>by
        rcases e with e | e
        ·have:=HA.o;omega
        ·exact(lK.o g e).2) HR.o HK.o Rx oR)
       have mV:=I (sV.o wr C2 Du u HR.o.rowsB HK.o Rx);have dY:=I (We (lJ c C2 u) k);have lB:Hid (lJ c C2 u k=((aR c C2).can u k&&gD (aR c (bV c C2 u k)))):=I rfl;have Kk:=I (HK.o.fix u k);have nX:=I (fun h=>bQ.o rest u C2 out2 k h oR HJ.o);obtain⟨CF,hCF⟩:=exq (bV c C2 u k);rw[hCF] at pG lB Kk nX;clear hCF;obtain⟨cb,rF⟩:=exq ((aR c C2).can u k);obtain⟨fk,lZ⟩:=exq (gD (aR c CF));rw[rF,lZ] at lB;have Ng:=I rF;have zJ:=I lZ;clear rF lZ
       go_upto_region 11 with(fail)
       clear c1
       go_wp2_with (refine wpList_load_row rfl 137 (.tmp 1) rfl (w.heap.size) ?xt 137 #[.slice qo qn qc,.slice mo mn mc,.slice uo un uc,.slice Du un Kj] (0,0) _ HX.o Tryz.underlying137 rfl (pD _ _ _ _) ?_;(case xt=>rfl))
       refine pG.o.mono ?_;rintro e w4 ⟨⟨zP,Ni,rfl,OH⟩,b4⟩;have B4:=I b4;have R4:=I OH;clear b4 OH pG;have O4:=hnw w4 137 [.slice none 0 0,.slice none 0 0,.slice none 0 0,.slice none 0 0];have BA:=I (bwA w4 (.cells #[.slice none 0 0,.slice none 0 0,.slice none 0 0,.slice none 0 0] 137))
       go_upto_region 12 with(refine sG rfl 137 (.tmp 8) (.tmp 35) rfl w4.heap.size #[.slice qo qn qc,.slice mo mn mc,.slice uo un uc,.slice zP un Ni] (by rfl) (by rfl) 137 _ O4.o (pD _ _ _ _) rfl (by simp[Value.oneCell']) ?_;intro w9 s9 u9;have S9:=I s9;have U9:=I u9;clear s9 u9)
       have A9:=I (U9.o.below BA.o (aO _));have bq:=B4.tr A9.o;have S9:Hid (aC w9 w4.heap.size 137 [.slice qo qn qc,.slice mo mn mc,.slice uo un uc,.slice zP un Ni]):=I S9.o;have X9:=I (HX.o.step bq.o);have O9:=I (HO.o.below bq.o);have R9:Hid (kV w9 (fun g=>g=w.heap.size\/blk o2=some g) C2 Du):=I (HR.o.only (Only.of_below bq.o (p:=fun _=>False)) (fun g _ e=>e.elim) (fun g _ e=>e));have N9:Hid (kV w9 (fun g=>g=w.heap.size\/blk o2=some g) CF zP):=I (R4.o.only (Only.of_below A9.o (p:=fun _=>False)) (fun g _ e=>e.elim) (fun g _ e=>e));have B9:=HB.tr bq.o;have gg:Hid (w.heap.size<w4.heap.size/\∀ g,blk o2=some g->g<w4.heap.size):=I ⟨gR HA.o B4.o.size,fun g hg=>gR (lK.o g hg).2 B4.o.size⟩;have mV:=I (sV.o w9 C2 Du u R9.o.rowsB HK.o Rx);clear O4 BA U9 A9 bq HX HO HR R4 HB;generalize w4.heap.size=NB at *;obtain⟨gc,oc,bo,bc,iE,fS,bu⟩:=mV.o;obtain⟨g2,p2,dE,y1⟩:=bu k oR;rw[Ng.o] at y1;have rQ:=I iE;subst dE;subst iE;clear bu mV;have c3:=X9.o.cell 3 _ rfl
       cases cb with
       | false =>
        have vJ:Hid (lJ c C2 u k=false):=I (by rw[lB.o];rfl)
        go_wp2_with fail
        clear c3 fS y1;go_roundw
        case rel=>exact⟨k+1,n2,o2,cap2,_,Kj,C2,out2,false,by go_num,rfl,rfl,by omega,Gm,HN,O9,B9,X9,R9,HK,I (fun _=>⟨dH,rfl,rfl,fun j hj=>by
         rcases gQ j k with h | h
         ·exact HJ.o j h
         ·obtain rfl:j=k:=by omega
          exact vJ.o⟩),I (fun h=>by cases h)⟩
        case measure=>simp only[intOf];omega
       | true =>
        have Dq:=I (Ct.o w9 CF zP Ni B9.o N9.o.rowsB Kk.o);rw[zJ.o] at Dq
        go_wp2_with (refine Ba (by rfl) 137 (.tmp 8) rfl NB ?xt 137 #[.slice qo qn qc,.slice mo mn mc,.slice uo un uc,.slice zP un Ni] (0,0) _ S9.o Tryz.underlying137 rfl (pD _ _ _ _) ?_;(case xt=>rfl))
        refine Dq.o.mono ?_;rintro e Ml ⟨rfl,Ry⟩;have OI:=S9.st Ry;have Xw:=X9.st Ry;have AY:=I (O9.o.below Ry);have zB:=B9.tr Ry;have ig:Hid (kV Ml (fun g=>g=w.heap.size\/blk o2=some g) C2 (some ⟨gc,oc,none⟩)):=I (R9.o.only (Only.of_below Ry (p:=fun _=>False)) (fun g _ e=>e.elim) (fun g _ e=>e));have OJ:Hid (kV Ml (fun g=>g=w.heap.size\/blk o2=some g) CF zP):=I (N9.o.only (Only.of_below Ry (p:=fun _=>False)) (fun g _ e=>e.elim) (fun g _ e=>e));clear Ry Dq c3 fS y1 S9 X9 O9 R9 N9 B9
        cases fk with
        | false =>
         have vJ:Hid (lJ c C2 u k=false):=I (by rw[lB.o];rfl)
         go_wp2_with fail
         go_roundw
         case rel=>exact⟨k+1,n2,o2,cap2,_,Kj,C2,out2,false,by go_num,rfl,rfl,by omega,Gm,HN,AY,zB,Xw,ig,HK,I (fun _=>⟨dH,rfl,rfl,fun j hj=>by
          rcases gQ j k with h | h
          ·exact HJ.o j h
          ·obtain rfl:j=k:=by omega
           exact vJ.o⟩),I (fun h=>by cases h)⟩
         case measure=>simp only[intOf];omega
        | true =>
         have vJ:Hid (lJ c C2 u k=true):=I (by rw[lB.o];rfl);have iY:Hid (fO c rest (u+1) CF (out2++[k])=cX):=I (by rw[<- nX.o vJ.o];exact HE.o);clear nX vJ
         go_upto_region 14 with(first | (refine wpList_load_row rfl 137 (.tmp 8) rfl (NB) ?xn 137 #[.slice qo qn qc,.slice mo mn mc,.slice uo un uc,.slice zP un Ni] (0,0) _ OI.o Tryz.underlying137 rfl (pD _ _ _ _) ?_;(case xn=>rfl)) | (refine sG rfl 137 (.tmp 1) (.tmp 48) rfl w.heap.size #[.slice qo qn qc,.slice mo mn mc,.slice uo un uc,.slice zP un Ni] (by rfl) (by rfl) 137 _ Xw.o (pD _ _ _ _) rfl (by simp[Value.oneCell']) ?_;intro Nf s9 u9;have Kh:=I s9;have Ha:=I u9;clear s9 u9))
         have AZ:=I (AY.o.upd Ha.o (fun e=>by have:=(lK.o _ e).1;omega));have Rr:=I (Ha.o.below zB.o (aO _));have OK:Hid (kV Nf (fun g=>g=w.heap.size\/blk o2=some g) CF zP):=I (OJ.o.only (Ha.o.only (p:=(· = w.heap.size)) rfl) (fun g _ e=>.inl e) (fun g _ e=>e));have Kh:Hid (aC Nf w.heap.size 137 [.slice qo qn qc,.slice mo mn mc,.slice uo un uc,.slice zP un Ni]):=I Kh.o;have Qh:Hid (w.heap.size+1<=Nf.heap.size):=I Kh.o.lt;clear Ha OI Xw AY ig OJ zB;have cU:Hid (bE out2++[Value.int .i64 ((k:Nat):Int)]=bE (out2++[k])):=I (Hs _ _);have sZ:Hid ((out2++[k]).length=n2+1):=I (by rw[gL,HN.o];rfl);have HOL:=I (fun g (hg:blk o2=some g)=>(AZ.o.blk_lt hg).2);generalize Gt:bE out2=pr at *;clear Gt
         go_wp2_with (at_builtin;go_loud (refine jM 33 3 (.int .i64 0) 1 8 Tryz.underlying33 sE rfl (by omega) (by omega) Nf (w.heap.size+1) rfl (.tmp 49) (.tmp 51) rfl o2 cap2 n2 pr ?q1 AZ.o Qh.o 1 1 #[.int .i64 (k:Int)] 3 ?q2 rfl (by omega) ?q3 ?q4 ?_);(case q1=>rfl);(case q2=>rfl);(case q3=>simp[Value.oneCell']);(case q4=>omega);intro g5 off5 c5 wa o8 aX b8 bW;have e_:=I o8;have f_:=I (Kh.o.grownBy aX (fun e=>by have:=(lK.o _ e).1;omega));have Uq:=I (Rr.o.trans (b8.mono (by omega)));have OO:=I (Zuh aX);have OR:=I bW;clear o8 aX b8 bW)
         have g_:Hid (kV wa (fun g=>g=w.heap.size\/blk (some ⟨g5,off5,none⟩)=some g) CF zP):=I (OK.o.only OO.o (fun g _ e=>.inr e) (fun g hg e=>by
          rcases e with e | e
          ·exact .inl e
          ·have e:g5=g:=bF e
           subst e;rcases OR.o with h | h
           ·exact .inr h
           ·omega))
         clear OO OR OK AZ Kh Rr;go_roundw
         case rel=>exact⟨k+1,n2+1,some ⟨g5,off5,none⟩,c5,zP,Ni,CF,out2++[k],true,by go_num,rfl,rfl,by omega,by omega,sZ,I (by rw[<- cU.o];exact e_.o),Uq,f_,g_,Kk,I (fun h=>by cases h),I (fun _=>iY.o)⟩
         case measure=>simp only[intOf];omega
      ·have kk:¬ (k:Int)<mn:=by omega
       obtain rfl:k=mn:=by omega
       have iY:Hid (fO c (un-(u+1)) (u+1) C2 out2=cX):=I (by rw[sX.o,<- zF.o rest u C2 out2 HJ.o];exact HE.o)
       go_wp2_with fail
       clear c1;go_roundw
       case rel=>exact⟨u+1,n2,o2,cap2,Du,Kj,C2,out2,by go_num,rfl,by omega,by omega,HN,HO,HB,HX,HR,HK,iY⟩
       case measure=>simp only[intOf];omega
   ·have uu:¬ (u:Int)<un:=by omega
    obtain rfl:u=un:=by omega
    have iY:Hid (out=cX):=I (by have h:=HE.o;rw[Nat.sub_self] at h;exact h);have O7:=I (HO.o.lower (Nat.le_succ w.heap.size));clear HO
    go_wp2_with fail
    go_ret2
    exact Bu.o _ _ HB.o ⟨o,cap,by rw[<- iY.o,HN.o];rfl,by rw[<- iY.o,HN.o];exact O7.o⟩
end
section
open Go.RowKit Go.Sort Go.Maps
theorem Z2u{c:Crw}(hf:Tk c=true):∀ m∈c.ms,m.b.length<=1000/\m.t.length<=1000:=by
 unfold Tk at hf;simp only[dB,List.all_eq_true] at hf;intro m hm;have h:=hf.2 m hm;unfold Bi at h;simp only[dB,decide_eq_true_eq] at h;omega
end
end Go.Proofs.YtbcgocpihobjnaaGreatDoor
