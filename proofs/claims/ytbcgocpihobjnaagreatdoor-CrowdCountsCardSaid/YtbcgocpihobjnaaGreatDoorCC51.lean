import Derived.SevenTiedAt
import Derived.SizedLaws
import Derived.Test.YtbcgocpihobjnaaGreatDoorCC49
import Derived.Test.YtbcgocpihobjnaaGreatDoorCC50
import Derived.Test.YtbcgocpihobjnaaGreatDoorCC34
import Derived.Test.YtbcgocpihobjnaaGreatDoorCC11
import Derived.Test.YtbcgocpihobjnaaGreatDoorCC45
set_option linter.all false
set_option maxHeartbeats 32000000
set_option maxRecDepth 100000
namespace Go.Proofs.YtbcgocpihobjnaaGreatDoor
section
open Go.RowKit Go.Sort Go.Maps
theorem Zfv(n lo hi:Int)(w:World):Calls Tryz.prog 122 #[.int .i64 n,.int .i64 lo,.int .i64 hi] w fun e w'=>e = .returned (.bool (inB n lo hi))/\w=w':=by
 unfold inB
 go_enter Tryz.func122,Tryz.ntmps122
 by_cases h1:lo<=n
 ·by_cases h2:n<=hi
  ·go_wp2
   go_ret;exact⟨Zac (by simp[h1,h2]),rfl⟩
  ·go_wp2
   go_ret;exact⟨Zac (by simp[show ¬ n<=hi by omega]),rfl⟩
 ·go_wp2
  go_ret;exact⟨Zac (by simp[show ¬ lo<=n by omega]),rfl⟩
theorem Zyc(w:World)(qo mo uo:Option Addr)(nq nm nu qc mc uc:Nat)(x:Use)(h1:nq<=1000000000)(h2:nm<=1000000000) :
  Calls Tryz.prog 126 #[.agg #[.slice qo nq qc,.slice mo nm mc,.slice uo nu uc],.agg (Zcg x).toArray] w fun e w'=>e = .returned (.bool (Zch nq nm x))/\Below w.heap.size w w':=by
 unfold Zch Zcg;generalize x.q=x0 at *;generalize x.w=x1 at *;generalize x.f=x2 at *;generalize x.h=x3 at *;have H1:=ħ (fun W=>Zfv x0 0 ((nq:Int)-1) W);have H2:=ħ (fun W=>Zfv x1 0 15 W);have H3:=ħ (fun W=>Zfv x2 0 16 W);have H4:=ħ (fun W=>Zfv x3 (-1) ((nm:Int)-1) W);generalize inB x0 0 ((nq:Int)-1)=b1 at *;generalize inB x1 0 15=b2 at *;generalize inB x2 0 16=b3 at *;generalize inB x3 (-1) ((nm:Int)-1)=b4 at *;have bx:=((đc w.heap.size w).alloc (đd _) (.cells #[.slice qo nq qc,.slice mo nm mc,.slice uo nu uc] 26)).alloc (by simp) (.cells #[.int .i64 x0,.int .i64 x1,.int .i64 x2,.int .i64 x3] 39);have B1:=ħ bx;have C1:Hid (Zae ((w.alloc (.cells #[.slice qo nq qc,.slice mo nm mc,.slice uo nu uc] 26)).alloc (.cells #[.int .i64 x0,.int .i64 x1,.int .i64 x2,.int .i64 x3] 39)) w.heap.size 26 [.slice qo nq qc,.slice mo nm mc,.slice uo nu uc]):=ħ (Zc0 _ _ _);have X1:Hid (Zae ((w.alloc (.cells #[.slice qo nq qc,.slice mo nm mc,.slice uo nu uc] 26)).alloc (.cells #[.int .i64 x0,.int .i64 x1,.int .i64 x2,.int .i64 x3] 39)) (w.heap.size+1) 39 [.int .i64 x0,.int .i64 x1,.int .i64 x2,.int .i64 x3]):=ħ (heap_alloc2_new _ _ _);clear bx;have e1:IntKind.i64.wrap ((nq:Int)-1)=(nq:Int)-1:=đh _ (by omega);have e2:IntKind.i64.wrap ((nm:Int)-1)=(nm:Int)-1:=đh _ (by omega)
 go_enter Tryz.func126,Tryz.ntmps126
 go_upto_region 1 with(fail)
 generalize hw:(w.alloc (.cells #[.slice qo nq qc,.slice mo nm mc,.slice uo nu uc] 26)).alloc (.cells #[.int .i64 x0,.int .i64 x1,.int .i64 x2,.int .i64 x3] 39)=w1 at *;clear hw;have c0:=C1.o.cell 0 _ rfl;have c1:=C1.o.cell 1 _ rfl;have y0:=X1.o.cell 0 _ rfl;have y1:=X1.o.cell 1 _ rfl;have y2:=X1.o.cell 2 _ rfl;have y3:=X1.o.cell 3 _ rfl
 go_wp2_with fail
 refine(H1.o w1).mono ?_;rintro e wa ⟨rfl,rfl⟩
 cases b1 with
 | false =>
  go_wp2_with fail
  go_ret;exact⟨Zac (by simp),B1.o⟩
 | true =>
  go_wp2_with fail
  refine(H2.o w1).mono ?_;rintro e wa ⟨rfl,rfl⟩
  cases b2 with
  | false =>
   go_wp2_with fail
   go_ret;exact⟨Zac (by simp),B1.o⟩
  | true =>
   go_wp2_with fail
   refine(H3.o w1).mono ?_;rintro e wa ⟨rfl,rfl⟩
   cases b3 with
   | false =>
    go_wp2_with fail
    go_ret;exact⟨Zac (by simp),B1.o⟩
   | true =>
    go_wp2_with fail
    refine(H4.o w1).mono ?_;rintro e wa ⟨rfl,rfl⟩
    go_wp2_with fail
    go_ret;exact⟨Zac (by simp),B1.o⟩
theorem Z4t(t:Array Value)(h:t.size=95):∃ f:Nat->Value,t=#[f 0,f 1,f 2,f 3,f 4,f 5,f 6,f 7,f 8,f 9,f 10,f 11,f 12,f 13,f 14,f 15,f 16,f 17,f 18,f 19,f 20,f 21,f 22,f 23,f 24,f 25,f 26,f 27,f 28,f 29,f 30,f 31,f 32,f 33,f 34,f 35,f 36,f 37,f 38,f 39,f 40,f 41,f 42,f 43,f 44,f 45,f 46,f 47,f 48,f 49,f 50,f 51,f 52,f 53,f 54,f 55,f 56,f 57,f 58,f 59,f 60,f 61,f 62,f 63,f 64,f 65,f 66,f 67,f 68,f 69,f 70,f 71,f 72,f 73,f 74,f 75,f 76,f 77,f 78,f 79,f 80,f 81,f 82,f 83,f 84,f 85,f 86,f 87,f 88,f 89,f 90,f 91,f 92,f 93,f 94]:=by
 obtain⟨l⟩:=t;have hl:l.length=95:=h
 have e:l=(List.range 95).map (fun i=>l.getD i undef):=by
  apply List.ext_getElem
  ·simp[hl]
  ·intro i h1 h2
   simp[List.getD,h1]
 exact⟨fun i=>l.getD i undef,congrArg List.toArray e⟩
def Z35(CB gu ou ix un uc qn qc mn mc:Nat)(qo mo:Option Addr)(y0 y1 y2 y3:Int)(bb:Bool)(i:Nat)(W:World)(v:Value):Prop:=match i with
 | 0=>v = .agg #[.slice qo qn qc,.slice mo mn mc,.slice (some ⟨gu,ou,none⟩) un uc]
 | 1=>v = .pointer (some ⟨CB,2,none⟩)
 | 2=>v = .slice (some ⟨gu,ou,none⟩) un uc
 | 3=>v = .int .i64 (ix:Nat)
 | 4=>v = .pointer (some ⟨gu,ou+ix*4,none⟩)
 | 5=>v = .agg #[.int .i64 y0,.int .i64 y1,.int .i64 y2,.int .i64 y3]
 | 6=>v = .bool bb
 | 7=>v = .bool (!bb)
 | _=>True
theorem Zyd(CB gu ou ix un uc qn qc mn mc:Nat)(qo mo:Option Addr)(y0 y1 y2 y3:Int)(bb:Bool):∀ i w w' v,Z35 CB gu ou ix un uc qn qc mn mc qo mo y0 y1 y2 y3 bb i w v->Below w.heap.size w w'->Z35 CB gu ou ix un uc qn qc mn mc qo mo y0 y1 y2 y3 bb i w' v:=by
 intro i w w' v h hb
 match i with
 | 0=>exact h
 | 1=>exact h
 | 2=>exact h
 | 3=>exact h
 | 4=>exact h
 | 5=>exact h
 | 6=>exact h
 | 7=>exact h
 | k+8=>trivial
structure ArgR (w:World) (c:Crw) (cs:List Value):Prop where
 crw:Zhs w c cs
 ok:CrwOk c
 len:∀ p∈c.qs,Zp0 p
 nu:c.us.length<=999
 bl:∀ m∈c.ms,m.b.length<=1000/\m.t.length<=1000
theorem ArgR.below{w w':World}{c:Crw}{cs:List Value}(h:ArgR w c cs)(hb:Below w.heap.size w w'):ArgR w' c cs:=⟨h.crw.below hb,h.ok,h.len,h.nu,h.bl⟩
theorem Zt5(c:Crw):Zal c=(decide (c.qs.length<=128)&&decide (c.ms.length<=64)&&decide (c.us.length<=4096)&&(c.qs.all Zba&&c.ms.all Zc8&&c.us.all (Zch c.qs.length c.ms.length))):=by
 have h:∀ {α:Type} (l:List α) (f:α->Bool),(!l.any (fun x=>!f x))=l.all f:=fun l f=>by
  induction l with
  | nil=>rfl
  | cons x l ih=>simp only[List.any_cons,List.all_cons,<- ih];cases f x<;>simp
 unfold Zal;rw[h,h,h];simp only[Bool.and_assoc]
theorem Zt6(m:Mem):Zc8 m=(vbP m.b&&decide (m.t.length<=16)&&inB m.r (-1) 16&&m.t.all (fun t=>inB t 0 4096)):=by
 have h:(!m.t.any Zz8)=m.t.all (fun t=>inB t 0 4096):=by
  unfold Zz8;generalize m.t=l
  induction l with
  | nil=>rfl
  | cons x l ih=>simp only[List.any_cons,List.all_cons,<- ih];cases inB x 0 4096<;>simp
 unfold Zc8;rw[h];cases vbP m.b<;>cases decide (m.t.length<=16)<;>cases inB m.r (-1) 16<;>cases m.t.all (fun t=>inB t 0 4096)<;>rfl
theorem Zhg{α:Type}{l:List α}{f:α->Bool}{i:Nat}{x:α}(h:l[i]?=some x)(hf:f x=true)(ha:∀ y∈l.take i,f y=true):∀ y∈l.take (i+1),f y=true:=by
 intro y hy;rw[đv,h] at hy;rcases đt.1 hy with hy | hy
 ·exact ha y hy
 ·simp only[Option.toList_some,List.mem_singleton] at hy;rw[hy];exact hf
theorem Zee{α:Type}{l:List α}{f:α->Bool}{i:Nat}{x:α}(h:l[i]?=some x)(hf:f x=false):l.all f=false:=by
 rw[List.all_eq_false];exact⟨x,đe h,by rw[hf];simp⟩
theorem Zkb{α:Type}{l:List α}{f:α->Bool}{n:Nat}(hn:l.length<=n)(ha:∀ y∈l.take n,f y=true):l.all f=true:=by
 rw[List.all_eq_true];intro y hy;exact ha y (by rw[List.take_of_length_le hn];exact hy)
theorem Zgk(w:World)(c:Crw)(cs:List Value)(ha:ArgR w c cs) :
  Calls Tryz.prog 55 #[.agg cs.toArray] w fun e w'=>e = .returned (.bool (Zal c))/\Below w.heap.size w w':=by
 obtain⟨V,hV⟩:∃ V,Zal c=V:=⟨_,rfl⟩;have HV:Hid (V=_):=ħ (hV.symm.trans (Zt5 c));rw[hV];obtain⟨qo,qc,mo,mc,uo,uc,rfl,hq0,hm0,hu0,-⟩:=ha.crw;have HQW:=ħ (fun W (hW:Below w.heap.size w W)=>hq0.below hW);have HMW:=ħ (fun W (hW:Below w.heap.size w W)=>hm0.below hW);have HUW:=ħ (fun W (hW:Below w.heap.size w W)=>hu0.below hW);have HLQ:=ħ ha.len;have HOQ:=ħ ha.ok.q;have HOM:=ħ ha.ok.m;have hqn:=ha.ok.nq;have hmn:=ha.ok.nm;have hun:=ha.nu;clear hV hq0 hm0 hu0 ha;generalize hnq:c.qs.length=qn at *;generalize hnm:c.ms.length=mn at *;generalize hnu:c.us.length=un at *;generalize c.qs=qs at *;generalize c.ms=ms at *;generalize c.us=us at *;have HQE:=ħ hnq;have HME:=ħ hnm;have HUE:=ħ hnu;clear hnq hnm hnu;have HVU:=ħ (fun x W uo=>Zyc W qo mo uo qn mn un qc mc uc x (by omega) (by omega));have X1:Hid (Zae (w.alloc (.cells #[.slice qo qn qc,.slice mo mn mc,.slice uo un uc] 26)) w.heap.size 26 [.slice qo qn qc,.slice mo mn mc,.slice uo un uc]):=ħ (heap_alloc_new w _);have B1:=ħ ((đc w.heap.size w).alloc (đd _) (.cells #[.slice qo qn qc,.slice mo mn mc,.slice uo un uc] 26))
 go_enter Tryz.func55,Tryz.ntmps55
 go_upto_region 1 with(fail)
 generalize w.alloc (.cells #[.slice qo qn qc,.slice mo mn mc,.slice uo un uc] 26)=w1 at *;have c0:=X1.o.cell 0 _ rfl;have c1:=X1.o.cell 1 _ rfl;have c2:=X1.o.cell 2 _ rfl;by_cases h1:(128:Int)<(qn:Int)
 ·have HF:Hid (V=false):=ħ (by rw[HV.o,decide_eq_false (show ¬ qn<=128 by omega)];rfl)
  go_wp2_with fail
  go_ret;exact⟨Zac HF.o.symm,B1.o⟩
 by_cases h2:(64:Int)<(mn:Int)
 ·have HF:Hid (V=false):=ħ (by rw[HV.o,decide_eq_false (show ¬ mn<=64 by omega),Bool.and_false];rfl)
  go_wp2_with fail
  go_ret;exact⟨Zac HF.o.symm,B1.o⟩
 have h3:¬ (4096:Int)<(un:Int):=by omega
 have HV:Hid (V=(qs.all Zba&&ms.all Zc8&&us.all (Zch qn mn))):=ħ (by rw[HV.o,decide_eq_true (show qn<=128 by omega),decide_eq_true (show mn<=64 by omega),decide_eq_true (show un<=4096 by omega)];simp)
 go_wp2_with fail
 clear c0 c1 c2
 go_loopw [3] (fun cc wr=>∃ (i:Nat),cc = .int .i64 i/\i<=qn/\Hid (∀ q∈qs.take i,Zba q=true)/\Hid (Below w.heap.size w wr)/\Hid (Zae wr w.heap.size 26 [.slice qo qn qc,.slice mo mn mc,.slice uo un uc])) (fun c _=>(qn-intOf c).toNat)
 case atStart=>exact⟨0,rfl,by omega,ħ (by simp),B1,X1⟩
 case round =>
  clear B1 X1;obtain⟨i,rfl,hi,ha,hw,hx⟩:=hrel;have c0:=hx.o.cell 0 _ rfl;by_cases hlt:i<qn
  ·have e2:IntKind.i64.wrap ((i:Int)+1)=((i+1:Nat):Int):=đh _ (by omega)
   have ii:(i:Int)<qn:=by omega
   obtain⟨q,hq⟩:∃ q,qs[i]?=some q:=⟨_,đb (by rw[HQE.o];exact hlt)⟩;obtain⟨g,off,vs,hao,hgl,hpc,hrd⟩:=(HQW.o wr hw.o).at i q hq;obtain⟨xa,xn,xc,hvf,-⟩:=hpc.form;subst hvf;have HSH:=ħ (Zqa q wr _ _ (HOQ.o q (đe hq)).2 (HOQ.o q (đe hq)).1 (HLQ.o q (đe hq)) hpc);have s0:=hrd 0 _ rfl;have s1:=hrd 1 _ rfl;have s2:=hrd 2 _ rfl;have s3:=hrd 3 _ rfl;have s4:=hrd 4 _ rfl;rw[Nat.add_zero] at s0;have HQI:=ħ hq;clear hq hpc hrd hgl;subst hao;obtain⟨sv,hsv⟩:∃ v,Zba q=v:=⟨_,rfl⟩;rw[hsv] at HSH;have HSV:=ħ hsv;clear hsv;generalize q.k=q0 at *;generalize Zad q.l=q1 at *;generalize Zad q.r=q2 at *;generalize q.c=q3 at *
   go_wp2_with fail
   refine HSH.o.mono ?_;rintro e w3 ⟨rfl,b3⟩;have hw3:=ħ (hw.o.trans (b3.mono hw.o.size));have hx3:=ħ (hx.o.step b3);clear b3 s0 s1 s2 s3 s4 HSH hw hx c0
   cases sv with
   | false =>
    have HF:Hid (V=false):=ħ (by rw[HV.o,Zee HQI.o HSV.o];rfl)
    go_wp2_with fail
    go_ret;exact⟨Zac HF.o.symm,hw3.o⟩
   | true =>
    have HA3:=ħ (Zhg HQI.o HSV.o ha.o)
    go_wp2_with fail
    go_roundw
    case rel=>exact⟨i+1,by go_num,by omega,HA3,hw3,hx3⟩
    case measure=>simp only[intOf];omega
  ·have ii:¬ (i:Int)<qn:=by omega
   obtain rfl:qn=i:=by omega
   have HV:Hid (V=(ms.all Zc8&&us.all (Zch qn mn))):=ħ (by rw[HV.o,Zkb (by rw[HQE.o];exact đd _) ha.o,đk]);clear ha
   go_wp2_with fail
   clear c0
   go_loopw [4] (fun cc wr=>∃ (j:Nat),cc = .int .i64 j/\j<=mn/\Hid (∀ m∈ms.take j,Zc8 m=true)/\Hid (Below w.heap.size w wr)/\Hid (Zae wr w.heap.size 26 [.slice qo qn qc,.slice mo mn mc,.slice uo un uc])) (fun c _=>(mn-intOf c).toNat)
   case atStart=>exact⟨0,rfl,by omega,ħ (by simp),hw,hx⟩
   case round =>
    clear hw hx;obtain⟨j,rfl,hj,ha,hw,hx⟩:=hrel;have c1:=hx.o.cell 1 _ rfl;by_cases hlt:j<mn
    ·have e2:IntKind.i64.wrap ((j:Int)+1)=((j+1:Nat):Int):=đh _ (by omega)
     have ii:(j:Int)<mn:=by omega
     obtain⟨m,hm⟩:∃ m,ms[j]?=some m:=⟨_,đb (by rw[HME.o];exact hlt)⟩;obtain⟨hmn1,hmb,hmt⟩:=HOM.o m (đe hm);obtain⟨g,off,vs,hao,hgl,hpc,hrd⟩:=(HMW.o wr hw.o).at j m hm;obtain⟨bo,bc,to',tc,rfl,hbr,hfr⟩:=hpc;have s0:=hrd 0 _ rfl;have s1:=hrd 1 _ rfl;have s2:=hrd 2 _ rfl;rw[Nat.add_zero] at s0;have HMI:=ħ hm;have HVB:=ħ (fun W (hW:Below wr.heap.size wr W)=>Zoy W _ m.b bo m.b.length bc rfl hmb hmn1 (hbr.below hW));have HTW:=ħ (fun W (hW:Below wr.heap.size wr W)=>hfr.below hW);have HMV:=ħ (Zt6 m);clear hm hrd hgl hbr hfr hmn1;subst hao;obtain⟨nb,hnb⟩:∃ v,m.b.length=v:=⟨_,rfl⟩;obtain⟨nt,hnt⟩:∃ v,m.t.length=v:=⟨_,rfl⟩;obtain⟨vb,hvb⟩:∃ v,vbP m.b=v:=⟨_,rfl⟩;rw[hnb] at s0 HVB;rw[hvb] at HVB HMV;rw[hnt] at s1 HMV hmt;obtain⟨tl,htl⟩:∃ v,m.t=v:=⟨_,rfl⟩;rw[htl] at HTW HMV hnt;obtain⟨mr,hmr⟩:∃ v,m.r=v:=⟨_,rfl⟩;rw[hmr] at s2 HMV;have HNT:=ħ hnt;have HIR:=ħ (fun W=>Zfv mr (-1) 16 W);obtain⟨vr,hvr⟩:∃ v,inB mr (-1) 16=v:=⟨_,rfl⟩;rw[hvr] at HIR HMV;obtain⟨vm,hvm⟩:∃ v,Zc8 m=v:=⟨_,rfl⟩;have HVM:=ħ hvm;rw[hvm] at HMV;clear hnb hnt hvb htl hmr hvr hvm hmb;have O1:Hid (Zae (wr.alloc (.cells #[.slice none 0 0,.slice none 0 0,.int .i64 0] 44)) wr.heap.size 44 [.slice none 0 0,.slice none 0 0,.int .i64 0]):=ħ (heap_alloc_new wr _);have BO:=ħ ((đc wr.heap.size wr).alloc (đd _) (.cells #[.slice none 0 0,.slice none 0 0,.int .i64 0] 44))
     go_upto_region 12 with(refine Zaq rfl 44 (.tmp 5) (.tmp 49) rfl wr.heap.size #[.slice bo nb bc,.slice to' nt tc,.int .i64 mr] (by rfl) (by rfl) 44 _ O1.o (Zha _ _ _) rfl (by simp[Value.oneCell']) ?_;intro w9 s9 u9;have S9:=ħ s9;have U9:=ħ u9;clear s9 u9)
     have A9:=ħ (U9.o.below BO.o (đd _));have S9:Hid (Zae w9 wr.heap.size 44 [.slice bo nb bc,.slice to' nt tc,.int .i64 mr]):=ħ S9.o;have X9:=ħ (hx.o.step A9.o);have L9:=ħ (hw.o.trans (A9.o.mono hw.o.size));clear O1 BO U9 s0 s1 s2 hw hx c1;have c0:=S9.o.cell 0 _ rfl
     go_wp2_with fail
     refine(HVB.o w9 A9.o).mono ?_;rintro e wa ⟨rfl,ba⟩;have AA:=ħ (A9.o.trans (ba.mono A9.o.size));have SA:=ħ (S9.o.step ba);have XA:=ħ (X9.o.step ba);have LA:=ħ (L9.o.trans (ba.mono L9.o.size));clear ba c0 A9 S9 X9 L9 HVB;have c1:=SA.o.cell 1 _ rfl;have c2:=SA.o.cell 2 _ rfl
     cases vb with
     | false =>
      have HF:Hid (V=false):=ħ (by rw[HV.o,Zee HMI.o (by rw[HVM.o,HMV.o];rfl)];rfl)
      go_wp2_with fail
      go_ret;exact⟨Zac HF.o.symm,LA.o⟩
     | true =>
     by_cases h16:(16:Int)<(nt:Int)
     ·have HF:Hid (V=false):=ħ (by rw[HV.o,Zee HMI.o (by rw[HVM.o,HMV.o,decide_eq_false (show ¬ nt<=16 by omega)];rfl)];rfl)
      go_wp2_with fail
      go_ret;exact⟨Zac HF.o.symm,LA.o⟩
     go_wp2_with fail
     refine(HIR.o wa).mono ?_;rintro e wb ⟨rfl,rfl⟩
     cases vr with
     | false =>
      have HF:Hid (V=false):=ħ (by rw[HV.o,Zee HMI.o (by rw[HVM.o,HMV.o,decide_eq_true (show nt<=16 by omega)];rfl)];rfl)
      go_wp2_with fail
      go_ret;exact⟨Zac HF.o.symm,LA.o⟩
     | true =>
     have HMV:Hid (vm=tl.all (fun t=>inB t 0 4096)):=ħ (by rw[HMV.o,decide_eq_true (show nt<=16 by omega)];rfl)
     go_wp2_with fail
     clear c1 c2
     go_loopw [6] (fun cc wr'=>∃ (k:Nat),cc = .int .i64 k/\k<=nt/\Hid (∀ t∈tl.take k,inB t 0 4096=true)/\Hid (wr'=wa)) (fun c _=>(nt-intOf c).toNat)
     case atStart=>exact⟨0,rfl,by omega,ħ (by simp),ħ rfl⟩
     case round =>
      obtain⟨k,rfl,hk,hta,HW⟩:=hrel;have hwe:=HW.o;subst hwe;clear HW;have c1:=SA.o.cell 1 _ rfl;by_cases hkt:k<nt
      ·have e3:IntKind.i64.wrap ((k:Int)+1)=((k+1:Nat):Int):=đh _ (by omega)
       have kk:(k:Int)<nt:=by omega
       obtain⟨t,ht⟩:∃ t,tl[k]?=some t:=⟨_,đb (by rw[HNT.o];exact hkt)⟩;obtain⟨g,off,hao,hg,hc⟩:=(HTW.o _ AA.o).at Zaz k t ht;have p0:=hc 0 _ rfl;rw[Nat.mul_one,Nat.add_zero] at p0;have HTI:=ħ ht;clear ht hc hg;subst hao;have HIT:=ħ (fun W=>Zfv t 0 4096 W);obtain⟨tv,htv⟩:∃ v,inB t 0 4096=v:=⟨_,rfl⟩;have HTV:=ħ htv;rw[htv] at HIT;clear htv
       go_wp2_with fail
       refine(HIT.o _).mono ?_;rintro e wb ⟨rfl,rfl⟩
       cases tv with
       | false =>
        have HF:Hid (V=false):=ħ (by rw[HV.o,Zee HMI.o (by rw[HVM.o,HMV.o];exact Zee HTI.o HTV.o)];rfl)
        go_wp2_with fail
        go_ret;exact⟨Zac HF.o.symm,LA.o⟩
       | true =>
        have HTA:=ħ (Zhg (f:=fun t=>inB t 0 4096) HTI.o HTV.o hta.o)
        go_wp2_with fail
        go_roundw
        case rel=>exact⟨k+1,by go_num,by omega,HTA,ħ trivial⟩
        case measure=>simp only[intOf];omega
      ·have kk:¬ (k:Int)<nt:=by omega
       have HA3:=ħ (Zhg HMI.o (HVM.o.trans (HMV.o.trans (Zkb (f:=fun t=>inB t 0 4096) (n:=k) (by rw[HNT.o];omega) hta.o))) ha.o)
       go_wp2_with fail
       go_roundw
       case rel=>exact⟨j+1,by go_num,by omega,HA3,LA,XA⟩
       case measure=>simp only[intOf];omega
    ·have ii:¬ (j:Int)<mn:=by omega
     obtain rfl:mn=j:=by omega
     have HV:Hid (V=us.all (Zch qn mn)):=ħ (by rw[HV.o,Zkb (by rw[HME.o];exact đd _) ha.o,đk]);clear ha
     go_wp2_with fail
     clear c1
     go_loopw [7] (fun cc wr=>∃ (ix:Nat),cc = .int .i64 ix/\ix<=un/\Hid (∀ m∈us.take ix,Zch qn mn m=true)/\Hid (Below w.heap.size w wr)/\Hid (Zae wr w.heap.size 26 [.slice qo qn qc,.slice mo mn mc,.slice uo un uc])) (fun c _=>(un-intOf c).toNat)
     case atStart=>exact⟨0,rfl,by omega,ħ (by simp),hw,hx⟩
     case round =>
      clear hw hx;obtain⟨ix,rfl,hj,ha,hw,hx⟩:=hrel;have c2:=hx.o.cell 2 _ rfl;by_cases hlt:ix<un
      ·have e2:IntKind.i64.wrap ((ix:Int)+1)=((ix+1:Nat):Int):=đh _ (by omega)
       have ii:(ix:Int)<un:=by omega
       have HII:=ħ ii;obtain⟨x,hux⟩:∃ x,us[ix]?=some x:=⟨_,đb (by rw[HUE.o];exact hlt)⟩;obtain⟨gu,ou,huo,hg,hcu⟩:=(HUW.o wr hw.o).at Zbj ix x hux;have HUI:=ħ hux;subst huo;have HVU:=ħ (fun W=>HVU.o x W (some ⟨gu,ou,none⟩));obtain⟨bb,hvu⟩:∃ v,Zch qn mn x=v:=⟨_,rfl⟩;have HVV:=ħ hvu;rw[hvu] at HVU;unfold Zcg at HVU;have p0:wr.cell? ⟨gu,ou+ix*4,none⟩=some (.int .i64 x.q):=hcu 0 _ rfl;have p1:wr.cell? ⟨gu,ou+ix*4+1,none⟩=some (.int .i64 x.w):=hcu 1 _ rfl;have p2:wr.cell? ⟨gu,ou+ix*4+2,none⟩=some (.int .i64 x.f):=hcu 2 _ rfl;have p3:wr.cell? ⟨gu,ou+ix*4+3,none⟩=some (.int .i64 x.h):=hcu 3 _ rfl;have HUY:=ħ (fun W (hW:Below wr.heap.size wr W)=>(⟨(hW.cell (p:=⟨gu,ou+ix*4,none⟩) hg).trans p0,(hW.cell (p:=⟨gu,ou+ix*4+1,none⟩) hg).trans p1,(hW.cell (p:=⟨gu,ou+ix*4+2,none⟩) hg).trans p2,(hW.cell (p:=⟨gu,ou+ix*4+3,none⟩) hg).trans p3⟩:_/\_/\_/\_));have HXB:=ħ (fun W (hW:Below wr.heap.size wr W)=>hx.o.step hW);clear hux hcu p0 p1 p2 p3 hvu hg;generalize x.q=y0 at *;generalize x.w=y1 at *;generalize x.f=y2 at *;generalize x.h=y3 at *
       go_upto_region 22 with(fail)
       refine Za3 (Z35 w.heap.size gu ou ix un uc qn qc mn mc qo mo y0 y1 y2 y3 bb) (by kernel_rfl) (Zyd w.heap.size gu ou ix un uc qn qc mn mc qo mo y0 y1 y2 y3 bb) (Zbr (by kernel_rfl)) (Zf5 (by kernel_rfl)) (Zax (by kernel_rfl)) ?hs ?he
       case hs =>
        intro i o hi listed a' w' H hl2;have hl3:=Zap hl2;have hin:i<8:=(đp.1 hi).1;have hb:=ħ H.below;have s1:=H.same 1 (Zam (by kernel_rfl));have s7:=H.same 7 (Zam (by kernel_rfl));have hdn:=H.done;have hdf:=H.defers;have hts:=H.tsize;clear hl2 H;obtain⟨t',df⟩:=a';obtain⟨f',rfl⟩:=Z4t t' hts;have hdf':df=[]:=hdf;subst hdf';have gs1:f' 1 = .pointer (some ⟨w.heap.size,0,none⟩):=s1;have gs7:f' 7 = .int .i64 (ix:Nat):=s7;clear s1 s7;clear hdf hts;have hcases:=Zwp i hin;clear hin;rcases hcases with rfl | rfl | rfl | rfl | rfl | rfl | rfl | rfl
        ·obtain rfl:=đa hi
         clear hdn hl3;rw[gs1];clear gs1 gs7;have hx:=HXB.o w' hb.o;have c0:=hx.cell 0 _ rfl;have c1:=hx.cell 1 _ rfl;have c2:=hx.cell 2 _ rfl;clear hx;refine Zab rfl ?_
         go_wp2_with fail
         exact Zaa ⟨_,rfl,đc _ _,rfl⟩
        ·obtain rfl:=đa hi
         clear hdn hl3;rw[gs1];clear gs1 gs7;refine Zab rfl ?_
         go_wp2_with fail
         exact Zaa ⟨_,rfl,đc _ _,rfl⟩
        ·obtain rfl:=đa hi
         have dv1:f' 88 = .pointer (some ⟨w.heap.size,2,none⟩):=hdn 1 _ 88 rfl (hl3 1 (by rfl)) rfl;clear hdn hl3;rw[dv1];clear dv1 gs1 gs7;have c2:=(HXB.o w' hb.o).cell 2 _ rfl;refine Zab rfl ?_
         go_wp2_with fail
         exact Zaa ⟨_,rfl,đc _ _,rfl⟩
        ·obtain rfl:=đa hi
         clear hdn hl3;rw[gs7];clear gs1 gs7;refine Zab rfl ?_
         go_wp2_with fail
         exact Zaa ⟨_,rfl,đc _ _,rfl⟩
        ·obtain rfl:=đa hi
         have dv2:f' 89 = .slice (some ⟨gu,ou,none⟩) un uc:=hdn 2 _ 89 rfl (hl3 2 (by rfl)) rfl;have dv3:f' 90 = .int .i64 (ix:Nat):=hdn 3 _ 90 rfl (hl3 3 (by rfl)) rfl;clear hdn hl3;rw[dv2,dv3];clear dv2 dv3 gs1 gs7;have ii:=HII.o;refine Zab rfl ?_
         go_wp2_with fail
         exact Zaa ⟨_,rfl,đc _ _,rfl⟩
        ·obtain rfl:=đa hi
         have dv4:f' 91 = .pointer (some ⟨gu,ou+ix*4,none⟩):=hdn 4 _ 91 rfl (hl3 4 (by rfl)) rfl;clear hdn hl3;rw[dv4];clear dv4 gs1 gs7;obtain⟨p0,p1,p2,p3⟩:=HUY.o w' hb.o;refine Zab rfl ?_
         go_wp2_with fail
         exact Zaa ⟨_,rfl,đc _ _,rfl⟩
        ·obtain rfl:=đa hi
         have dv0:f' 87 = .agg #[.slice qo qn qc,.slice mo mn mc,.slice (some ⟨gu,ou,none⟩) un uc]:=hdn 0 _ 87 rfl (hl3 0 (by rfl)) rfl;have dv5:f' 92 = .agg #[.int .i64 y0,.int .i64 y1,.int .i64 y2,.int .i64 y3]:=hdn 5 _ 92 rfl (hl3 5 (by rfl)) rfl;clear hdn hl3;rw[dv0,dv5];clear dv0 dv5 gs1 gs7;refine Zab rfl ?_
         go_wp2_with fail
         refine(HVU.o w').mono ?_;rintro e w4 ⟨rfl,b4⟩;have HB4:=ħ b4;clear b4
         go_wp2_with fail
         exact Zaa ⟨_,rfl,HB4.o,rfl⟩
        ·obtain rfl:=đa hi
         have dv6:f' 93 = .bool bb:=hdn 6 _ 93 rfl (hl3 6 (by rfl)) rfl;clear hdn hl3;rw[dv6];clear dv6 gs1 gs7;refine Zab rfl ?_
         go_wp2_with fail
         exact Zaa ⟨_,rfl,đc _ _,rfl⟩
       case he =>
        intro listed a' w4 H hall;have hd7:Z35 w.heap.size gu ou ix un uc qn qc mn mc qo mo y0 y1 y2 y3 bb 7 w4 (a'.tmps.getD 94 undef):=H.done 7 _ 94 rfl (hall 7 (by decide)) rfl;have hb4:=ħ H.below;have hact:=H.act [87,88,89,90,91,92,93,94] (Zdd (by kernel_rfl));clear H hall;simp only[List.foldl_cons,List.foldl_nil] at hact;generalize a'.tmps.getD 87 undef=z87 at *;generalize a'.tmps.getD 88 undef=z88 at *;generalize a'.tmps.getD 89 undef=z89 at *;generalize a'.tmps.getD 90 undef=z90 at *;generalize a'.tmps.getD 91 undef=z91 at *;generalize a'.tmps.getD 92 undef=z92 at *;generalize a'.tmps.getD 93 undef=z93 at *;generalize a'.tmps.getD 94 undef=z94 at *;subst hact;have e7:z94 = .bool (!bb):=hd7;subst e7;clear hd7;simp only[Act.put,List.setIfInBounds_toArray,List.set_cons_succ,List.set_cons_zero];have B7:=ħ (hw.o.trans (hb4.o.mono hw.o.size));have X7:=ħ (HXB.o _ hb4.o);clear hb4 hw hx HUY HXB
        cases bb with
        | false =>
         have HF:Hid (V=false):=ħ (by rw[HV.o,Zee HUI.o HVV.o])
         go_wp2_with fail
         go_ret;exact⟨Zac HF.o.symm,B7.o⟩
        | true =>
         have HA3:=ħ (Zhg HUI.o HVV.o ha.o)
         go_wp2_with fail
         go_roundw
         case rel=>exact⟨ix+1,by go_num,by omega,HA3,B7,X7⟩
         case measure=>simp only[intOf];omega
      ·have ii:¬ (ix:Int)<un:=by omega
       have HF:Hid (V=true):=ħ (by rw[HV.o];exact Zkb (by rw[HUE.o];omega) ha.o)
       go_wp2_with fail
       go_ret;exact⟨Zac HF.o.symm,hw.o⟩
end
section
open Go.RowKit Go.Sort Go.Maps
theorem Z4u(t:Array Value)(h:t.size=29):∃ f:Nat->Value,t=#[f 0,f 1,f 2,f 3,f 4,f 5,f 6,f 7,f 8,f 9,f 10,f 11,f 12,f 13,f 14,f 15,f 16,f 17,f 18,f 19,f 20,f 21,f 22,f 23,f 24,f 25,f 26,f 27,f 28]:=by
 obtain⟨l⟩:=t;have hl:l.length=29:=h
 have e:l=(List.range 29).map (fun i=>l.getD i undef):=by
  apply List.ext_getElem
  ·simp[hl]
  ·intro i h1 h2
   simp[List.getD,h1]
 exact⟨fun i=>l.getD i undef,congrArg List.toArray e⟩
def Z3s(CB gq oq gm om ix k qn qc mn mc un uc nb bc:Nat)(uo bo:Option Addr)(q0 q3:Int)(q1 q2:ByteArray)(xa:Option Addr)(xn xc:Nat)(R:Bool)(E:Int)(i:Nat)(W:World)(v:Value):Prop:=match i with
 | 0=>v = .pointer (some ⟨CB,0,none⟩)
 | 1=>v = .slice (some ⟨gq,oq,none⟩) qn qc
 | 2=>v = .int .i64 (ix:Nat)
 | 3=>v = .pointer (some ⟨gq,oq+ix*5,none⟩)
 | 4=>v = .agg #[.int .i64 q0,.string q1,.string q2,.int .i64 q3,.slice xa xn xc]
 | 5=>v = .pointer (some ⟨CB,1,none⟩)
 | 6=>v = .slice (some ⟨gm,om,none⟩) mn mc
 | 7=>v = .int .i64 (k:Nat)
 | 8=>v = .pointer (some ⟨gm,om+k*3,none⟩)
 | 9=>v = .pointer (some ⟨gm,om+k*3,none⟩)
 | 10=>v = .slice bo nb bc
 | 11=>v = .tuple #[.bool R,.int .i64 E]
 | 12=>v = .tuple #[.bool R,.int .i64 E]
 | 13=>v = .bool R
 | 14=>v = .int .i64 E
 | 15=>v = .bool R
 | 16=>v = .int .i64 E
 | _=>True
theorem Zye(CB gq oq gm om ix k qn qc mn mc un uc nb bc:Nat)(uo bo:Option Addr)(q0 q3:Int)(q1 q2:ByteArray)(xa:Option Addr)(xn xc:Nat)(R:Bool)(E:Int):∀ i w w' v,Z3s CB gq oq gm om ix k qn qc mn mc un uc nb bc uo bo q0 q3 q1 q2 xa xn xc R E i w v->Below w.heap.size w w'->Z3s CB gq oq gm om ix k qn qc mn mc un uc nb bc uo bo q0 q3 q1 q2 xa xn xc R E i w' v:=by
 intro i w w' v h hb
 match i with
 | 0=>exact h
 | 1=>exact h
 | 2=>exact h
 | 3=>exact h
 | 4=>exact h
 | 5=>exact h
 | 6=>exact h
 | 7=>exact h
 | 8=>exact h
 | 9=>exact h
 | 10=>exact h
 | 11=>exact h
 | 12=>exact h
 | 13=>exact h
 | 14=>exact h
 | 15=>exact h
 | 16=>exact h
 | k+17=>trivial
theorem Zkc(w:World)(c:Crw)(cs:List Value)(ha:ArgR w c cs)(hv:Zal c=true)(ix k:Nat)(p:Prd)(m:Mem)(hp:c.qs[ix]?=some p)(hm:c.ms[k]?=some m) :
  Calls Tryz.prog 117 #[.agg cs.toArray,.int .i64 (ix:Nat),.int .i64 (k:Nat)] w fun e w'=>e = .returned (.bool (hmB p m))/\Below w.heap.size w w':=by
 obtain⟨-,-,-,hvp,hvm,-⟩:=Zau hv;have hpv:=hvp p (đe hp);have hmv:=Zo2 (hvm m (đe hm));have hlp:=ha.len p (đe hp);have hbl:=(ha.bl m (đe hm)).1;have hqn:ix<c.qs.length:=(đg.1 hp).1;have hmn:k<c.ms.length:=(đg.1 hm).1;have hqb:=ha.ok.nq;have hmb:=ha.ok.nm;obtain⟨qo,qc,mo,mc,uo,uc,rfl,hq0,hm0,-,-⟩:=ha.crw;obtain⟨gq,oq,vs,hqo,hgq,hpc,hrd⟩:=hq0.at ix p hp;obtain⟨gm,om,cm,hmo,hgm,hmc,hrm⟩:=hm0.at k m hm;obtain⟨xa,xn,xc,hvf,-⟩:=hpc.form;subst hvf;obtain⟨bo,bc,to',tc,rfl,hbr,-⟩:=hmc;have HHO:=ħ (fun W (hW:Below w.heap.size w W)=>Zt4 p W _ _ _ m.b bo m.b.length bc hpv hlp (hpc.below hW) rfl (by omega) hmv (hbr.below hW));have HR:Hid (hmB p m=((Ze8 p m.b).1&&((Ze8 p m.b).2==0))):=ħ rfl;have p0:w.cell? ⟨gq,oq+ix*5,none⟩=some (.int .i64 p.k):=hrd 0 _ rfl;have p1:w.cell? ⟨gq,oq+ix*5+1,none⟩=some (.string (Zad p.l)):=hrd 1 _ rfl;have p2:w.cell? ⟨gq,oq+ix*5+2,none⟩=some (.string (Zad p.r)):=hrd 2 _ rfl;have p3:w.cell? ⟨gq,oq+ix*5+3,none⟩=some (.int .i64 p.c):=hrd 3 _ rfl;have p4:w.cell? ⟨gq,oq+ix*5+4,none⟩=some (.slice xa xn xc):=hrd 4 _ rfl;have m0:w.cell? ⟨gm,om+k*3,none⟩=some (.slice bo m.b.length bc):=hrm 0 _ rfl;have HQY:=ħ (fun W (hW:Below w.heap.size w W)=>(⟨(hW.cell (p:=⟨gq,oq+ix*5,none⟩) hgq).trans p0,(hW.cell (p:=⟨gq,oq+ix*5+1,none⟩) hgq).trans p1,(hW.cell (p:=⟨gq,oq+ix*5+2,none⟩) hgq).trans p2,(hW.cell (p:=⟨gq,oq+ix*5+3,none⟩) hgq).trans p3,(hW.cell (p:=⟨gq,oq+ix*5+4,none⟩) hgq).trans p4⟩:_/\_/\_/\_/\_));have HMY:=ħ (fun W (hW:Below w.heap.size w W)=>(hW.cell (p:=⟨gm,om+k*3,none⟩) hgm).trans m0);have HII:Hid ((ix:Int)<(c.qs.length:Nat)):=ħ (by omega);have HKK:Hid ((k:Int)<(c.ms.length:Nat)):=ħ (by omega);subst hqo;subst hmo;clear hp hm hpv hmv hlp hvp hvm hq0 hm0 hpc hrd hrm hbr p0 p1 p2 p3 p4 m0 ha hgq hgm hv hbl;generalize hmB p m=VR at *;generalize (Ze8 p m.b).1=R at *;generalize (Ze8 p m.b).2=E at *;generalize m.b.length=nb at *;generalize p.k=q0 at *;generalize Zad p.l=q1 at *;generalize Zad p.r=q2 at *;generalize p.c=q3 at *;generalize c.qs.length=qn at *;generalize c.ms.length=mn at *;generalize c.us.length=un at *;have X1:Hid (Zae (w.alloc (.cells #[.slice (some ⟨gq,oq,none⟩) qn qc,.slice (some ⟨gm,om,none⟩) mn mc,.slice uo un uc] 26)) w.heap.size 26 [.slice (some ⟨gq,oq,none⟩) qn qc,.slice (some ⟨gm,om,none⟩) mn mc,.slice uo un uc]):=ħ (heap_alloc_new w _);have B1:=ħ ((đc w.heap.size w).alloc (đd _) (.cells #[.slice (some ⟨gq,oq,none⟩) qn qc,.slice (some ⟨gm,om,none⟩) mn mc,.slice uo un uc] 26))
 go_enter Tryz.func117,Tryz.ntmps117
 go_upto_region 1 with(fail)
 generalize w.alloc (.cells #[.slice (some ⟨gq,oq,none⟩) qn qc,.slice (some ⟨gm,om,none⟩) mn mc,.slice uo un uc] 26)=w1 at *;have HXB:=ħ (fun W (hW:Below w1.heap.size w1 W)=>X1.o.step hW);have HQY:=ħ (fun W (hW:Below w1.heap.size w1 W)=>HQY.o W (B1.o.trans (hW.mono B1.o.size)));have HMY:=ħ (fun W (hW:Below w1.heap.size w1 W)=>HMY.o W (B1.o.trans (hW.mono B1.o.size)));have HHO:=ħ (fun W (hW:Below w1.heap.size w1 W)=>HHO.o W (B1.o.trans (hW.mono B1.o.size)));clear X1;refine Za3 (Z3s w.heap.size gq oq gm om ix k qn qc mn mc un uc nb bc uo bo q0 q3 q1 q2 xa xn xc R E) (by kernel_rfl) (Zye w.heap.size gq oq gm om ix k qn qc mn mc un uc nb bc uo bo q0 q3 q1 q2 xa xn xc R E) (Zbr (by kernel_rfl)) (Zf5 (by kernel_rfl)) (Zax (by kernel_rfl)) ?hs ?he
 case hs =>
  intro i o hi listed a' w' H hl2;have hl3:=Zap hl2;have hin:i<17:=(đp.1 hi).1;have hb:=ħ H.below;have s3:=H.same 3 (Zam (by kernel_rfl));have s1:=H.same 1 (Zam (by kernel_rfl));have s2:=H.same 2 (Zam (by kernel_rfl));have hdn:=H.done;have hdf:=H.defers;have hts:=H.tsize;clear hl2 H;obtain⟨t',df⟩:=a';obtain⟨f',rfl⟩:=Z4u t' hts;have hdf':df=[]:=hdf;subst hdf';have gs3:f' 3 = .pointer (some ⟨w.heap.size,0,none⟩):=s3;have gs1:f' 1 = .int .i64 (ix:Nat):=s1;have gs2:f' 2 = .int .i64 (k:Nat):=s2;clear s3 s1 s2;clear hdf hts;have hcases:=Zs7 i hin;clear hin;rcases hcases with rfl | rfl | rfl | rfl | rfl | rfl | rfl | rfl | rfl | rfl | rfl | rfl | rfl | rfl | rfl | rfl | rfl
  ·obtain rfl:=đa hi
   clear hdn hl3;rw[gs3];clear gs3 gs1 gs2;refine Zab rfl ?_
   go_wp2_with fail
   exact Zaa ⟨_,rfl,đc _ _,rfl⟩
  ·obtain rfl:=đa hi
   have dv0:f' 10 = .pointer (some ⟨w.heap.size,0,none⟩):=hdn 0 _ 10 rfl (hl3 0 (by rfl)) rfl;clear hdn hl3;rw[dv0];clear dv0 gs3 gs1 gs2;have c0:=(HXB.o w' hb.o).cell 0 _ rfl;refine Zab rfl ?_
   go_wp2_with fail
   exact Zaa ⟨_,rfl,đc _ _,rfl⟩
  ·obtain rfl:=đa hi
   clear hdn hl3;rw[gs1];clear gs3 gs1 gs2;refine Zab rfl ?_
   go_wp2_with fail
   exact Zaa ⟨_,rfl,đc _ _,rfl⟩
  ·obtain rfl:=đa hi
   have dv1:f' 11 = .slice (some ⟨gq,oq,none⟩) qn qc:=hdn 1 _ 11 rfl (hl3 1 (by rfl)) rfl;have dv2:f' 12 = .int .i64 (ix:Nat):=hdn 2 _ 12 rfl (hl3 2 (by rfl)) rfl;clear hdn hl3;rw[dv1,dv2];clear dv1 dv2 gs3 gs1 gs2;have ii:=HII.o;refine Zab rfl ?_
   go_wp2_with fail
   exact Zaa ⟨_,rfl,đc _ _,rfl⟩
  ·obtain rfl:=đa hi
   have dv3:f' 13 = .pointer (some ⟨gq,oq+ix*5,none⟩):=hdn 3 _ 13 rfl (hl3 3 (by rfl)) rfl;clear hdn hl3;rw[dv3];clear dv3 gs3 gs1 gs2;obtain⟨p0,p1,p2,p3,p4⟩:=HQY.o w' hb.o;refine Zab rfl ?_
   go_wp2_with fail
   exact Zaa ⟨_,rfl,đc _ _,rfl⟩
  ·obtain rfl:=đa hi
   clear hdn hl3;rw[gs3];clear gs3 gs1 gs2;refine Zab rfl ?_
   go_wp2_with fail
   exact Zaa ⟨_,rfl,đc _ _,rfl⟩
  ·obtain rfl:=đa hi
   have dv5:f' 15 = .pointer (some ⟨w.heap.size,1,none⟩):=hdn 5 _ 15 rfl (hl3 5 (by rfl)) rfl;clear hdn hl3;rw[dv5];clear dv5 gs3 gs1 gs2;have c1:=(HXB.o w' hb.o).cell 1 _ rfl;refine Zab rfl ?_
   go_wp2_with fail
   exact Zaa ⟨_,rfl,đc _ _,rfl⟩
  ·obtain rfl:=đa hi
   clear hdn hl3;rw[gs2];clear gs3 gs1 gs2;refine Zab rfl ?_
   go_wp2_with fail
   exact Zaa ⟨_,rfl,đc _ _,rfl⟩
  ·obtain rfl:=đa hi
   have dv6:f' 16 = .slice (some ⟨gm,om,none⟩) mn mc:=hdn 6 _ 16 rfl (hl3 6 (by rfl)) rfl;have dv7:f' 17 = .int .i64 (k:Nat):=hdn 7 _ 17 rfl (hl3 7 (by rfl)) rfl;clear hdn hl3;rw[dv6,dv7];clear dv6 dv7 gs3 gs1 gs2;have kk:=HKK.o;refine Zab rfl ?_
   go_wp2_with fail
   exact Zaa ⟨_,rfl,đc _ _,rfl⟩
  ·obtain rfl:=đa hi
   have dv8:f' 18 = .pointer (some ⟨gm,om+k*3,none⟩):=hdn 8 _ 18 rfl (hl3 8 (by rfl)) rfl;clear hdn hl3;rw[dv8];clear dv8 gs3 gs1 gs2;refine Zab rfl ?_
   go_wp2_with fail
   exact Zaa ⟨_,rfl,đc _ _,rfl⟩
  ·obtain rfl:=đa hi
   have dv9:f' 19 = .pointer (some ⟨gm,om+k*3,none⟩):=hdn 9 _ 19 rfl (hl3 9 (by rfl)) rfl;clear hdn hl3;rw[dv9];clear dv9 gs3 gs1 gs2;have p0:=HMY.o w' hb.o;refine Zab rfl ?_
   go_wp2_with fail
   exact Zaa ⟨_,rfl,đc _ _,rfl⟩
  ·obtain rfl:=đa hi
   have dv4:f' 14 = .agg #[.int .i64 q0,.string q1,.string q2,.int .i64 q3,.slice xa xn xc]:=hdn 4 _ 14 rfl (hl3 4 (by rfl)) rfl;have dv10:f' 20 = .slice bo nb bc:=hdn 10 _ 20 rfl (hl3 10 (by rfl)) rfl;clear hdn hl3;rw[dv4,dv10];clear dv4 dv10 gs3 gs1 gs2;refine Zab rfl ?_
   go_wp2_with fail
   refine(HHO.o w' hb.o).mono ?_;rintro e w4 ⟨rfl,b4⟩;have HB4:=ħ b4;clear b4
   go_wp2_with fail
   exact Zaa ⟨_,rfl,HB4.o,rfl⟩
  ·obtain rfl:=đa hi
   have dv11:f' 21 = .tuple #[.bool R,.int .i64 E]:=hdn 11 _ 21 rfl (hl3 11 (by rfl)) rfl;clear hdn hl3;rw[dv11];clear dv11 gs3 gs1 gs2;refine Zab rfl ?_
   go_wp2_with fail
   exact Zaa ⟨_,rfl,đc _ _,rfl⟩
  ·obtain rfl:=đa hi
   have dv12:f' 9 = .tuple #[.bool R,.int .i64 E]:=hdn 12 _ 9 rfl (hl3 12 (by rfl)) rfl;clear hdn hl3;rw[dv12];clear dv12 gs3 gs1 gs2;refine Zab rfl ?_
   go_wp2_with fail
   exact Zaa ⟨_,rfl,đc _ _,rfl⟩
  ·obtain rfl:=đa hi
   have dv12:f' 9 = .tuple #[.bool R,.int .i64 E]:=hdn 12 _ 9 rfl (hl3 12 (by rfl)) rfl;clear hdn hl3;rw[dv12];clear dv12 gs3 gs1 gs2;refine Zab rfl ?_
   go_wp2_with fail
   exact Zaa ⟨_,rfl,đc _ _,rfl⟩
  ·obtain rfl:=đa hi
   have dv13:f' 22 = .bool R:=hdn 13 _ 22 rfl (hl3 13 (by rfl)) rfl;clear hdn hl3;rw[dv13];clear dv13 gs3 gs1 gs2;refine Zab rfl ?_
   go_wp2_with fail
   exact Zaa ⟨_,rfl,đc _ _,rfl⟩
  ·obtain rfl:=đa hi
   have dv14:f' 23 = .int .i64 E:=hdn 14 _ 23 rfl (hl3 14 (by rfl)) rfl;clear hdn hl3;rw[dv14];clear dv14 gs3 gs1 gs2;refine Zab rfl ?_
   go_wp2_with fail
   exact Zaa ⟨_,rfl,đc _ _,rfl⟩
 case he =>
  intro listed a' w4 H hall;have hd15:Z3s w.heap.size gq oq gm om ix k qn qc mn mc un uc nb bc uo bo q0 q3 q1 q2 xa xn xc R E 15 w4 (a'.tmps.getD 7 undef):=H.done 15 _ 7 rfl (hall 15 (by decide)) rfl;have hd16:Z3s w.heap.size gq oq gm om ix k qn qc mn mc un uc nb bc uo bo q0 q3 q1 q2 xa xn xc R E 16 w4 (a'.tmps.getD 8 undef):=H.done 16 _ 8 rfl (hall 16 (by decide)) rfl;have hb4:=ħ H.below;have hact:=H.act [10,11,12,13,14,15,16,17,18,19,20,21,9,22,23,7,8] (Zdd (by kernel_rfl));clear H hall;simp only[List.foldl_cons,List.foldl_nil] at hact;generalize a'.tmps.getD 10 undef=z10 at *;generalize a'.tmps.getD 11 undef=z11 at *;generalize a'.tmps.getD 12 undef=z12 at *;generalize a'.tmps.getD 13 undef=z13 at *;generalize a'.tmps.getD 14 undef=z14 at *;generalize a'.tmps.getD 15 undef=z15 at *;generalize a'.tmps.getD 16 undef=z16 at *;generalize a'.tmps.getD 17 undef=z17 at *;generalize a'.tmps.getD 18 undef=z18 at *;generalize a'.tmps.getD 19 undef=z19 at *;generalize a'.tmps.getD 20 undef=z20 at *;generalize a'.tmps.getD 21 undef=z21 at *;generalize a'.tmps.getD 9 undef=z9 at *;generalize a'.tmps.getD 22 undef=z22 at *;generalize a'.tmps.getD 23 undef=z23 at *;generalize a'.tmps.getD 7 undef=z7 at *;generalize a'.tmps.getD 8 undef=z8 at *;subst hact;have e15:z7 = .bool R:=hd15;subst e15;clear hd15;have e16:z8 = .int .i64 E:=hd16;subst e16;clear hd16;simp only[Act.put,List.setIfInBounds_toArray,List.set_cons_succ,List.set_cons_zero];have B7:=ħ (B1.o.trans (hb4.o.mono B1.o.size));clear hb4 HQY HMY HHO HXB B1;by_cases hE:E=0
  ·have q1:(E==0)=true:=by simpa using hE
   cases R with
   | false =>
    go_wp2_with fail
    go_ret;exact⟨by rw[HR.o,q1];rfl,B7.o⟩
   | true =>
    go_wp2_with fail
    go_ret;exact⟨by rw[HR.o,q1];rfl,B7.o⟩
  ·have q1:(E==0)=false:=by simpa using hE
   go_wp2_with fail
   go_ret;exact⟨by rw[HR.o,q1,Bool.and_false];rfl,B7.o⟩
theorem Z09{c:Crw}{x:Use}{k:Nat}{p:Prd}{m:Mem}(hp:c.qs[x.q.toNat]?=some p)(hm:c.ms[k]?=some m):Zus c (Zaj c) x k=Zjz (hmB p m) m.r x.f x.h k:=by
 have e:(Zaj c).getD x.q.toNat []=c.ms.map (hmB p):=by
  unfold Zaj;rw[đf,đj,hp];rfl
 have e2:(c.ms.map (hmB p)).getD k false=hmB p m:=by
  rw[đf,đj,hm];rfl
 have e3:c.ms.getD k ⟨[],[],0⟩=m:=by
  rw[đf,hm];rfl
 unfold Zus;rw[e,e2,e3]
theorem Zt7(w:World)(c:Crw)(cs:List Value)(ha:ArgR w c cs)(hv:Zal c=true)(x:Use)(k:Nat)(hx:Zch c.qs.length c.ms.length x=true)(hk:k<c.ms.length) :
  Calls Tryz.prog 127 #[.agg cs.toArray,.agg (Zcg x).toArray,.int .i64 (k:Nat)] w fun e w'=>e = .returned (.bool (Zus c (Zaj c) x k))/\Below w.heap.size w w':=by
 obtain⟨hx0,hx1,-,-,-,-⟩:=Zfc hx;obtain⟨ix,hix⟩:∃ n:Nat,x.q=(n:Int):=⟨x.q.toNat,by omega⟩;obtain⟨p,hp⟩:∃ p,c.qs[x.q.toNat]?=some p:=⟨_,đb hx1⟩;obtain⟨m,hm⟩:∃ m,c.ms[k]?=some m:=⟨_,đb hk⟩;have HR:Hid (Zus c (Zaj c) x k=(hmB p m&&(m.r == -1||decide (x.f<=m.r))&&(x.h == -1||x.h==(k:Int)))):=ħ (Z09 hp hm)
 have hp':c.qs[ix]?=some p:=by rw[<- hp,hix];rfl
 have HHO:=ħ (fun W (hW:Below w.heap.size w W)=>Zkc W c cs (ha.below hW) hv ix k p m hp' hm);have hmb:=ha.ok.nm;obtain⟨qo,qc,mo,mc,uo,uc,rfl,-,hm0,-,-⟩:=ha.crw;obtain⟨gm,om,cm,hmo,hgm,hmc,hrm⟩:=hm0.at k m hm;obtain⟨bo,bc,to',tc,rfl,-,-⟩:=hmc;have m0:w.cell? ⟨gm,om+k*3,none⟩=some (.slice bo m.b.length bc):=hrm 0 _ rfl;have m1:w.cell? ⟨gm,om+k*3+1,none⟩=some (.slice to' m.t.length tc):=hrm 1 _ rfl;have m2:w.cell? ⟨gm,om+k*3+2,none⟩=some (.int .i64 m.r):=hrm 2 _ rfl;have HMY:=ħ (fun W (hW:Below w.heap.size w W)=>(⟨(hW.cell (p:=⟨gm,om+k*3,none⟩) hgm).trans m0,(hW.cell (p:=⟨gm,om+k*3+1,none⟩) hgm).trans m1,(hW.cell (p:=⟨gm,om+k*3+2,none⟩) hgm).trans m2⟩:_/\_/\_));have HKK:Hid ((k:Int)<(c.ms.length:Nat)):=ħ (by omega);obtain⟨x0,x1,x2,x3⟩:=x;obtain rfl:x0=(ix:Int):=hix;unfold Zcg;subst hmo;clear hp hp' hm hm0 hrm m0 m1 m2 ha hgm hv hx hx0 hx1 hk;generalize hmB p m=hb at *;generalize Zus c (Zaj c) _ k=VR at *;generalize m.b.length=nb at *;generalize m.t.length=nt at *;generalize m.r=mr at *;generalize c.qs.length=qn at *;generalize c.ms.length=mn at *;generalize c.us.length=un at *;obtain⟨X1,U1,B1⟩:=Zcw w 26 39 [.slice qo qn qc,.slice (some ⟨gm,om,none⟩) mn mc,.slice uo un uc] [.int .i64 (ix:Nat),.int .i64 x1,.int .i64 x2,.int .i64 x3];have X1:=ħ X1;have U1:=ħ U1;have B1:=ħ B1
 go_enter Tryz.func127,Tryz.ntmps127
 go_upto_region 1 with(fail)
 generalize (w.alloc (.cells #[.slice qo qn qc,.slice (some ⟨gm,om,none⟩) mn mc,.slice uo un uc] 26)).alloc (.cells #[.int .i64 (ix:Nat),.int .i64 x1,.int .i64 x2,.int .i64 x3] 39)=w1 at *;have c1:=X1.o.cell 1 _ rfl;have kk:=HKK.o;obtain⟨s0,s1,s2⟩:=HMY.o w1 B1.o;have O1:Hid (Zae (w1.alloc (.cells #[.slice none 0 0,.slice none 0 0,.int .i64 0] 44)) w1.heap.size 44 [.slice none 0 0,.slice none 0 0,.int .i64 0]):=ħ (heap_alloc_new w1 _);have BO:=ħ ((đc w1.heap.size w1).alloc (đd _) (.cells #[.slice none 0 0,.slice none 0 0,.int .i64 0] 44))
 go_upto_region 2 with(refine Zaq rfl 44 (.tmp 7) (.tmp 12) rfl w1.heap.size #[.slice bo nb bc,.slice to' nt tc,.int .i64 mr] (by rfl) (by rfl) 44 _ O1.o (Zha _ _ _) rfl (by simp[Value.oneCell']) ?_;intro w9 s9 u9;have S9:=ħ s9;have U9:=ħ u9;clear s9 u9)
 have A9:=ħ (U9.o.below BO.o (đd _));have S9:Hid (Zae w9 w1.heap.size 44 [.slice bo nb bc,.slice to' nt tc,.int .i64 mr]):=ħ S9.o;have X9:=ħ (X1.o.step A9.o);have V9:=ħ (U1.o.step A9.o);have L9:=ħ (B1.o.trans (A9.o.mono B1.o.size));clear O1 BO U9 s0 s1 s2 B1 X1 U1 A9 c1 HMY;have u0:=V9.o.cell 0 _ rfl
 go_wp2_with (refine wpList_load_row rfl 26 (.tmp 3) rfl (w.heap.size) ?x1 26 #[.slice qo qn qc,.slice (some ⟨gm,om,none⟩) mn mc,.slice uo un uc] (0,0) _ X9.o Tryz.underlying26 rfl (Zbf _ _ _) ?_;(case x1=>rfl))
 refine(HHO.o w9 L9.o).mono ?_;rintro e wa ⟨rfl,ba⟩;have SA:=ħ (S9.o.step ba);have VA:=ħ (V9.o.step ba);have LA:=ħ (L9.o.trans (ba.mono L9.o.size));clear ba S9 V9 L9 u0 HHO X9;have c2:=SA.o.cell 2 _ rfl;have u2:=VA.o.cell 2 _ rfl;have u3:=VA.o.cell 3 _ rfl;have HR:Hid (VR=(hb&&(mr == -1||decide (x2<=mr))&&(x3 == -1||x3==(k:Int)))):=HR
 cases hb with
 | false =>
  go_wp2_with fail
  go_ret;exact⟨by rw[HR.o];rfl,LA.o⟩
 | true =>
  by_cases h1:mr = -1
  ·have q1:(mr == -1)=true:=by simpa using h1
   by_cases h3:x3 = -1
   ·have q3:(x3 == -1)=true:=by simpa using h3
    go_wp2_with fail
    go_ret;exact⟨by rw[HR.o,q1,q3];rfl,LA.o⟩
   have q3:(x3 == -1)=false:=by simpa using h3
   by_cases h4:x3=(k:Int)
   ·have q4:(x3==(k:Int))=true:=by simpa using h4
    go_wp2_with fail
    go_ret;exact⟨by rw[HR.o,q1,q3,q4];rfl,LA.o⟩
   have q4:(x3==(k:Int))=false:=by simpa using h4
   go_wp2_with fail
   go_ret;exact⟨by rw[HR.o,q1,q3,q4];rfl,LA.o⟩
  have q1:(mr == -1)=false:=by simpa using h1
  by_cases h2:mr≥x2
  ·have d2:decide (x2<=mr)=true:=decide_eq_true h2
   by_cases h3:x3 = -1
   ·have q3:(x3 == -1)=true:=by simpa using h3
    go_wp2_with fail
    go_ret;exact⟨by rw[HR.o,q1,d2,q3];rfl,LA.o⟩
   have q3:(x3 == -1)=false:=by simpa using h3
   by_cases h4:x3=(k:Int)
   ·have q4:(x3==(k:Int))=true:=by simpa using h4
    go_wp2_with fail
    go_ret;exact⟨by rw[HR.o,q1,d2,q3,q4];rfl,LA.o⟩
   have q4:(x3==(k:Int))=false:=by simpa using h4
   go_wp2_with fail
   go_ret;exact⟨by rw[HR.o,q1,d2,q3,q4];rfl,LA.o⟩
  have d2:decide (x2<=mr)=false:=decide_eq_false (by omega)
  go_wp2_with fail
  go_ret;exact⟨by rw[HR.o,q1,d2];rfl,LA.o⟩
end
section
open Go.RowKit Go.Sort Go.Maps
theorem Z4v(t:Array Value)(h:t.size=42):∃ f:Nat->Value,t=#[f 0,f 1,f 2,f 3,f 4,f 5,f 6,f 7,f 8,f 9,f 10,f 11,f 12,f 13,f 14,f 15,f 16,f 17,f 18,f 19,f 20,f 21,f 22,f 23,f 24,f 25,f 26,f 27,f 28,f 29,f 30,f 31,f 32,f 33,f 34,f 35,f 36,f 37,f 38,f 39,f 40,f 41]:=by
 obtain⟨l⟩:=t;have hl:l.length=42:=h
 have e:l=(List.range 42).map (fun i=>l.getD i undef):=by
  apply List.ext_getElem
  ·simp[hl]
  ·intro i h1 h2
   simp[List.getD,h1]
 exact⟨fun i=>l.getD i undef,congrArg List.toArray e⟩
def Z3t(CB WS gu ou ix k rc un uc qn qc mn mc:Nat)(ro qo mo:Option Addr)(y0 y1 y2 y3:Int)(bb:Bool)(i:Nat)(W:World)(v:Value):Prop:=match i with
 | 0=>v = .slice ro k rc
 | 1=>v = .agg #[.slice qo qn qc,.slice mo mn mc,.slice (some ⟨gu,ou,none⟩) un uc]
 | 2=>v = .pointer (some ⟨CB,2,none⟩)
 | 3=>v = .slice (some ⟨gu,ou,none⟩) un uc
 | 4=>v = .int .i64 (ix:Nat)
 | 5=>v = .pointer (some ⟨gu,ou+ix*4,none⟩)
 | 6=>v = .agg #[.int .i64 y0,.int .i64 y1,.int .i64 y2,.int .i64 y3]
 | 7=>v = .int .i64 (k:Nat)
 | 8=>v = .bool bb
 | 9=>∃ V,v = .slice (some ⟨V,0,none⟩) 1 1/\WS<=V/\Zae W V 4 [.bool bb]
 | _=>True
theorem Zyf(CB WS gu ou ix k rc un uc qn qc mn mc:Nat)(ro qo mo:Option Addr)(y0 y1 y2 y3:Int)(bb:Bool):∀ i w w' v,Z3t CB WS gu ou ix k rc un uc qn qc mn mc ro qo mo y0 y1 y2 y3 bb i w v->Below w.heap.size w w'->Z3t CB WS gu ou ix k rc un uc qn qc mn mc ro qo mo y0 y1 y2 y3 bb i w' v:=by
 intro i w w' v h hb
 match i with
 | 0=>exact h
 | 1=>exact h
 | 2=>exact h
 | 3=>exact h
 | 4=>exact h
 | 5=>exact h
 | 6=>exact h
 | 7=>exact h
 | 8=>exact h
 | 9=>obtain⟨V,h1,h2,h3⟩:=h;exact⟨V,h1,h2,h3.step hb⟩
 | k+10=>trivial
theorem RowM.addS {α:Type} {EL:World->(Nat->Prop)->α->List Value->Prop} (hE:Zok EL) {k base:Nat} {w2 wa:World} {lo:Nat} {bad:Nat->Prop} {ao:Option Addr} {n cp g5 off5 c5:Nat} {xs:List α} {vss:List (List Value)} {x:α} {vs:List Value} (h:RowM EL k base w2 lo bad ao n cp xs vss)
  (hx:EL w2 (fun g=>base<=g/\¬ bad g/\blk ao≠some g) x vs) (hk:vs.length=k) (ho:OwnK wa lo k (n+1) c5 (vss.flatten++vs) (some ⟨g5,off5,none⟩)) (hg:w2.grownBy wa (blk ao)) (hor:blk ao=some g5\/w2.heap.size<=g5) :
  RowM EL k base wa lo bad (some ⟨g5,off5,none⟩) (n+1) c5 (xs++[x]) (vss++[vs]):=by
 have hnew:∀ g,blk ao≠some g->g<w2.heap.size->blk (some (⟨g5,off5,none⟩:Addr))≠some g:=fun g hb hl e=>by
  have e':g5=g:=đa e;subst e';rcases hor with h1 | h1
  ·exact hb h1
  ·omega
 have hst:∀ (y:α) (us:List Value),EL w2 (fun g=>base<=g/\¬ bad g/\blk ao≠some g) y us->EL wa (fun g=>base<=g/\¬ bad g/\blk (some (⟨g5,off5,none⟩:Addr))≠some g) y us:=fun y us hy =>
  hE _ _ _ _ y us (fun g hp hl=>hg.block g hl (fun e=>hp.2.2 e.symm)) hg.size (fun g hp hl=>⟨hp.1,hp.2.1,hnew g hp.2.2 hl⟩) hy
 refine⟨by rw[List.flatten_append];simpa using ho,by rw[đn,đn,h.len];rfl,by rw[đn,<- h.cnt];rfl,fun us hu=>?_,fun i y us hy hu=>?_⟩
 ·rcases đt.1 hu with hu | hu
  ·exact h.elk us hu
  ·rw[List.mem_singleton.1 hu];exact hk
 ·rcases đw i xs.length with hl | hl
  ·rw[List.getElem?_append_left hl] at hy
   rw[List.getElem?_append_left (by rw[h.len];exact hl)] at hu;exact hst _ _ (h.each i y us hy hu)
  ·rw[List.getElem?_append_right hl] at hy
   rw[List.getElem?_append_right (by rw[h.len];exact hl),h.len] at hu
   have h0:i-xs.length=0:=by
    have:=(đg.1 hy).1;simp at this;omega
   rw[h0] at hy hu
   obtain rfl:x=y:=by simpa using hy
   obtain rfl:vs=us:=by simpa using hu
   exact hst _ _ hx
theorem Zef{w w':World}{B k n cap:Nat}{xs:List Value}{ao:Option Addr}(hO:OwnK w B k n cap xs ao)(hg:w.grownBy w' (blk ao))(hB:B<=w.heap.size):Below B w w':=⟨hg.os,hg.tape,hg.output,hg.size,fun i hi=>hg.block i (đm hi hB) (fun e=>by
 have:=(hO.blk_lt e.symm).1
 omega)⟩
theorem Zdr(v0 v1 v2 v3:Value):(Tryz.prog.info? 137).map (·.size)=some #[v0,v1,v2,v3].size:=by
 show _=some 4
 kernel_rfl
theorem Zt8:(Tryz.prog.info? 4).map (fun i=>(i.zero,i.size,i.bytes))=some (some (.bool false),1,1):=by kernel_rfl
theorem Zyg{row:List Bool}{m:Nat}(hm:m<row.length):bvs (row.take m)++[Value.bool (row.getD m false)]=bvs (row.take (m+1)):=by
 rw[đv,đb hm];unfold bvs;rw[List.map_append,đf,đb hm];rfl
def Zt9(w:World)(c:Crw)(C:List (List Bool))(cs:List Value):Prop:=∃ qo qc mo mc uo uc co cc,cs=[.slice qo c.qs.length qc,.slice mo c.ms.length mc,.slice uo c.us.length uc,.slice co C.length cc]/\Zfu w (fun _=>True) c.qs qo/\Zhr w c.ms mo/\Zan Zcg w uo c.us/\Zfb w C co
theorem Zt9.below{w w':World}{c:Crw}{C:List (List Bool)}{cs:List Value}(h:Zt9 w c C cs)(hb:Below w.heap.size w w'):Zt9 w' c C cs:=by
 obtain⟨qo,qc,mo,mc,uo,uc,co,cc,h1,h2,h3,h4,h5⟩:=h;exact⟨qo,qc,mo,mc,uo,uc,co,cc,h1,h2.below hb,h3.below hb,h4.below hb,h5.below hb⟩
theorem Zig(w:World)(t1 t2:TypeId)(a b:List Value):Zae ((w.alloc (.cells a.toArray t1)).alloc (.cells b.toArray t2)) w.heap.size t1 a/\Zae ((w.alloc (.cells a.toArray t1)).alloc (.cells b.toArray t2)) (w.heap.size+1) t2 b/\Below w.heap.size w ((w.alloc (.cells a.toArray t1)).alloc (.cells b.toArray t2))/\((w.alloc (.cells a.toArray t1)).alloc (.cells b.toArray t2)).heap.size=w.heap.size+2:=by
 obtain⟨h1,h2,h3⟩:=Zcw w t1 t2 a b;exact⟨h1,h2,h3,by rw[đl,đl]⟩
theorem Zmd(w:World)(c:Crw)(cs:List Value)(ha:ArgR w c cs)(hv:Zal c=true) :
  Calls Tryz.prog 112 #[.agg cs.toArray] w fun e w'=>(∃ ts,e = .returned (.agg ts.toArray)/\Zt9 w' c (Za7 c) ts)/\Below w.heap.size w w':=by
 obtain⟨-,hm64,-,-,-,huv⟩:=Zau hv;have HEL:=ħ (fun x (hx:x∈c.us) k (hk:k<c.ms.length) W (hW:Below w.heap.size w W)=>Zt7 W c cs (ha.below hW) hv x k (huv x hx) hk);obtain⟨qo,qc,mo,mc,uo,uc,rfl,hq0,hm0,hu0,-⟩:=ha.crw;have HQW:=ħ (fun W (hW:Below w.heap.size w W)=>hq0.below hW);have HMW:=ħ (fun W (hW:Below w.heap.size w W)=>hm0.below hW);have HUW:=ħ (fun W (hW:Below w.heap.size w W)=>hu0.below hW);have hun:=ha.nu;have HCF:Hid (Za7 c=c.us.map (Zeo c (Zaj c))):=ħ rfl;obtain⟨CF,hCF⟩:∃ C,Za7 c=C:=⟨_,rfl⟩;rw[hCF] at HCF ⊢;have HTR:Hid (∀ W co cc,Below w.heap.size w W->Zfb W CF co->CF.length=c.us.length->Zt9 W c CF [.slice qo c.qs.length qc,.slice mo c.ms.length mc,.slice uo c.us.length uc,.slice co c.us.length cc]):=ħ (fun W co cc hW hr hl=>⟨qo,qc,mo,mc,uo,uc,co,cc,by rw[hl],HQW.o W hW,HMW.o W hW,HUW.o W hW,hr⟩);clear hCF hq0 hm0 hu0 ha hv huv;have HRL:=ħ (fun x=>Zf0 c (Zaj c) x)
 have HRG:Hid (∀ x k,k<c.ms.length->(Zeo c (Zaj c) x).getD k false=Zus c (Zaj c) x k):=ħ (fun x k hk=>by
  unfold Zeo
  rw[đf,đj,List.getElem?_range hk];rfl)
 generalize hnq:c.qs.length=qn at *;generalize hnm:c.ms.length=mn at *;generalize hnu:c.us.length=un at *;have HUE:=ħ hnu;clear hnq hnm hnu;obtain⟨X1,R1,B1,hs1⟩:=Zig w 26 137 [.slice qo qn qc,.slice mo mn mc,.slice uo un uc] [.slice none 0 0,.slice none 0 0,.slice none 0 0,.slice none 0 0];have X1:=ħ X1;have R1:=ħ R1;have B1:=ħ B1
 go_enter Tryz.func112,Tryz.ntmps112
 go_upto_region 1 with(fail)
 have HS1:=ħ hs1;clear hs1;generalize (w.alloc (.cells #[.slice qo qn qc,.slice mo mn mc,.slice uo un uc] 26)).alloc (.cells #[.slice none 0 0,.slice none 0 0,.slice none 0 0,.slice none 0 0] 137)=w1 at *;have O1:Hid (Zae (w1.alloc (.cells #[.slice none 0 0,.slice none 0 0,.slice none 0 0,.slice none 0 0] 137)) w1.heap.size 137 [.slice none 0 0,.slice none 0 0,.slice none 0 0,.slice none 0 0]):=ħ (heap_alloc_new w1 _);have BO:=ħ ((đc w1.heap.size w1).alloc (đd _) (.cells #[.slice none 0 0,.slice none 0 0,.slice none 0 0,.slice none 0 0] 137))
 go_upto_region 2 with(first | (refine wpList_load_row rfl 26 (.tmp 1) rfl (w.heap.size) ?xl9 26 #[.slice qo qn qc,.slice mo mn mc,.slice uo un uc] (0,0) _ X1.o Tryz.underlying26 rfl (Zbf _ _ _) ?_;(case xl9=>rfl)) | (refine Zaq rfl 137 (.tmp 3) (.tmp 8) rfl w1.heap.size #[.slice qo qn qc,.slice mo mn mc,.slice uo un uc,.slice none 0 0] (by rfl) (by rfl) 137 _ O1.o (Zdr _ _ _ _) rfl (by simp[Value.oneCell']) ?_;intro w9 s9 u9;have S9:=ħ s9;have U9:=ħ u9;clear s9 u9))
 have A9:=ħ (U9.o.below BO.o (đd _));have S9:Hid (Zae w9 w1.heap.size 137 [.slice qo qn qc,.slice mo mn mc,.slice uo un uc,.slice none 0 0]):=ħ S9.o;have X9:=ħ (X1.o.step A9.o);have R9:=ħ (R1.o.step A9.o);have L9:=ħ (B1.o.trans (A9.o.mono B1.o.size));obtain⟨T,hT⟩:∃ T,w1.heap.size=T:=⟨_,rfl⟩;rw[hT] at S9 ⊢;have HTB:Hid (T=w.heap.size+2):=ħ (by rw[<- hT];exact HS1.o);clear O1 BO U9 X1 R1 B1 A9 hT HS1;have M9:Hid (RowM BlE 1 (T+1) w9 (T+1) (· = T) none 0 0 (CF.take 0) []):=ħ (by rw[List.take_zero];exact RowM.nil _ _ _)
 go_upto_region 3 with(fail)
 go_loopw [4] (fun iv wr=>∃ (i:Nat) (co:Option Addr) (cc:Nat) (vss:List (List Value)),iv = .int .i64 i/\i<=un/\Hid (Zae wr T 137 [.slice qo qn qc,.slice mo mn mc,.slice uo un uc,.slice co i cc])/\Hid (RowM BlE 1 (T+1) wr (T+1) (· = T) co i cc (CF.take i) vss)/\Hid (Zae wr w.heap.size 26 [.slice qo qn qc,.slice mo mn mc,.slice uo un uc])/\Hid (Zae wr (w.heap.size+1) 137 [.slice none 0 0,.slice none 0 0,.slice none 0 0,.slice none 0 0])/\Hid (Below w.heap.size w wr)) (fun i _=>(un-intOf i).toNat)
 case atStart=>exact⟨0,none,0,[],rfl,by omega,S9,M9,X9,R9,L9⟩
 case round =>
  clear S9 M9 X9 R9 L9;obtain⟨ix,co,cc,vss,rfl,hi,S4,M4,X4,R4,B4⟩:=hrel;have e2:IntKind.i64.wrap ((ix:Int)+1)=((ix+1:Nat):Int):=đh _ (by omega);have c2:=X4.o.cell 2 _ rfl;by_cases hlt:ix<un
  ·have ii:(ix:Int)<un:=by omega
   have HII:=ħ ii;obtain⟨x,hx⟩:∃ x,c.us[ix]?=some x:=⟨_,đb (by rw[HUE.o];exact hlt)⟩;have HEL:=ħ (fun k hk=>HEL.o x (đe hx) k hk);obtain⟨gu,ou,huo,hg,hcu⟩:=(HUW.o wr B4.o).at Zbj ix x hx;have p0:wr.cell? ⟨gu,ou+ix*4,none⟩=some (.int .i64 x.q):=hcu 0 _ rfl;have p1:wr.cell? ⟨gu,ou+ix*4+1,none⟩=some (.int .i64 x.w):=hcu 1 _ rfl;have p2:wr.cell? ⟨gu,ou+ix*4+2,none⟩=some (.int .i64 x.f):=hcu 2 _ rfl;have p3:wr.cell? ⟨gu,ou+ix*4+3,none⟩=some (.int .i64 x.h):=hcu 3 _ rfl;have HUY:=ħ (fun W (hW:Below wr.heap.size wr W)=>(⟨(hW.cell (p:=⟨gu,ou+ix*4,none⟩) hg).trans p0,(hW.cell (p:=⟨gu,ou+ix*4+1,none⟩) hg).trans p1,(hW.cell (p:=⟨gu,ou+ix*4+2,none⟩) hg).trans p2,(hW.cell (p:=⟨gu,ou+ix*4+3,none⟩) hg).trans p3⟩:_/\_/\_/\_));have HCI:Hid (CF.take (ix+1)=CF.take ix++[Zeo c (Zaj c) x]):=ħ (by rw[đv,HCF.o,đj,hx];rfl);subst huo;clear hx hcu p0 p1 p2 p3 hg;unfold Zcg at HEL;have HRL:=ħ (HRL.o x);have HRG:=ħ (fun k hk=>HRG.o x k hk);obtain⟨RW,hRW⟩:∃ r,Zeo c (Zaj c) x=r:=⟨_,rfl⟩;rw[hRW] at HCI HRL HRG;obtain⟨G,hG⟩:∃ g,Zus c (Zaj c) x=g:=⟨_,rfl⟩;rw[hG] at HEL HRG;clear hRW hG;generalize x.q=y0 at *;generalize x.w=y1 at *;generalize x.f=y2 at *;generalize x.h=y3 at *;have HBL:Hid (∀ g,blk co=some g->g<wr.heap.size):=ħ (fun g hg=>(M4.o.own.blk_lt hg).2);have bx:=(đc wr.heap.size wr).alloc (đd _) (.cells #[] 4);have O5:=ħ (OwnK.made wr 4 1);have W5:=ħ bx;have S5:=ħ (S4.o.step bx);have X5:=ħ (X4.o.step bx);have R5:=ħ (R4.o.step bx);have B5:=ħ (B4.o.trans (bx.mono B4.o.size));have HT5:=ħ S4.o.lt;clear bx S4 X4 R4
   go_upto_region 7 with(fail)
   clear c2;generalize wr.alloc (.cells #[] 4)=w5 at *;generalize wr=wo at *
   go_loopw [5,6] (fun rv kv wq=>∃ (k:Nat) (ro:Option Addr) (rc:Nat),kv = .int .i64 k/\k<=mn/\rv = .slice ro k rc/\Hid (OwnK wq wo.heap.size 1 k rc (bvs (RW.take k)) ro)/\Hid (Below wo.heap.size wo wq)/\Hid (Below w.heap.size w wq)/\Hid (Zae wq T 137 [.slice qo qn qc,.slice mo mn mc,.slice (some ⟨gu,ou,none⟩) un uc,.slice co ix cc])/\Hid (Zae wq w.heap.size 26 [.slice qo qn qc,.slice mo mn mc,.slice (some ⟨gu,ou,none⟩) un uc])/\Hid (Zae wq (w.heap.size+1) 137 [.slice none 0 0,.slice none 0 0,.slice none 0 0,.slice none 0 0])) (fun _ k _=>(mn-intOf k).toNat)
   case atStart=>exact⟨0,_,0,rfl,by omega,rfl,ħ (by simpa [bvs] using O5.o),W5,B5,S5,X5,R5⟩
   case round =>
    clear O5 W5 S5 X5 R5 B5;obtain⟨k,ro,rc,rfl,hk,rfl,O6,W6,B6,S6,X6,R6⟩:=hrel;have e3:IntKind.i64.wrap ((k:Int)+1)=((k+1:Nat):Int):=đh _ (by omega);have c1:=X6.o.cell 1 _ rfl;by_cases hkn:k<mn
    ·have kk:(k:Int)<mn:=by omega
     have HEL:=ħ (fun W (hW:Below wr.heap.size wr W)=>HEL.o k hkn W (B6.o.trans (hW.mono B6.o.size)));obtain⟨bb,hbb⟩:∃ b,G k=b:=⟨_,rfl⟩;rw[hbb] at HEL;have HRK:Hid (bvs (RW.take k)++[.bool bb]=bvs (RW.take (k+1))):=ħ (by rw[<- hbb,<- HRG.o k hkn];exact Zyg (by rw[HRL.o];exact hkn));clear hbb;have HUY:=ħ (fun W (hW:Below wr.heap.size wr W)=>HUY.o W (W6.o.trans (hW.mono W6.o.size)));have HXB:=ħ (fun W (hW:Below wr.heap.size wr W)=>X6.o.step hW);obtain⟨PR,hPR⟩:∃ l,bvs (RW.take k)=l:=⟨_,rfl⟩;rw[hPR] at O6 HRK;clear hPR
     go_upto_region 9 with(fail)
     clear c1;refine Za2 10 1 (Z3t w.heap.size wr.heap.size gu ou ix k rc un uc qn qc mn mc ro qo mo y0 y1 y2 y3 bb) (by kernel_rfl) rfl (Zyf w.heap.size wr.heap.size gu ou ix k rc un uc qn qc mn mc ro qo mo y0 y1 y2 y3 bb) (Zbr (by kernel_rfl)) (Zeh (by kernel_rfl)) (Zax (by kernel_rfl)) (Zck (by kernel_rfl)) ?hs ?he
     case hs =>
      intro i o hin hi listed a' w' H hsn hl2;have hl3:=Zap hl2;have hb:=ħ H.below;have s1:=hsn 1 (Zak (by kernel_rfl));have s4:=hsn 4 (Zak (by kernel_rfl));have s5:=hsn 5 (Zak (by kernel_rfl));have s6:=hsn 6 (Zak (by kernel_rfl));have hdn:=H.done;have hdf:=H.defers;have hts:=H.tsize;clear hl2 H hsn;obtain⟨t',df⟩:=a';obtain⟨f',rfl⟩:=Z4v t' hts;have hdf':df=[]:=hdf;subst hdf';have gs1:f' 1 = .pointer (some ⟨w.heap.size,0,none⟩):=s1;have gs4:f' 4 = .int .i64 (ix:Nat):=s4;have gs5:f' 5 = .slice ro k rc:=s5;have gs6:f' 6 = .int .i64 (k:Nat):=s6;clear s1 s4 s5 s6;clear hdf hts;have hcases:i=0\/i=1\/i=2\/i=3\/i=4\/i=5\/i=6\/i=7\/i=8\/i=9:=Zdb i hin;clear hin;rcases hcases with rfl | rfl | rfl | rfl | rfl | rfl | rfl | rfl | rfl | rfl
      ·obtain rfl:=đa hi
       clear hdn hl3;rw[gs5];clear gs1 gs4 gs5 gs6;refine Zab rfl ?_
       go_wp2_with fail
       exact Zaa ⟨_,rfl,đc _ _,rfl⟩
      ·obtain rfl:=đa hi
       clear hdn hl3;rw[gs1];clear gs1 gs4 gs5 gs6;have hx:=HXB.o w' hb.o;have c0:=hx.cell 0 _ rfl;have c1:=hx.cell 1 _ rfl;have c2:=hx.cell 2 _ rfl;clear hx;refine Zab rfl ?_
       go_wp2_with fail
       exact Zaa ⟨_,rfl,đc _ _,rfl⟩
      ·obtain rfl:=đa hi
       clear hdn hl3;rw[gs1];clear gs1 gs4 gs5 gs6;refine Zab rfl ?_
       go_wp2_with fail
       exact Zaa ⟨_,rfl,đc _ _,rfl⟩
      ·obtain rfl:=đa hi
       have dv2:f' 26 = .pointer (some ⟨w.heap.size,2,none⟩):=hdn 2 _ 26 rfl (hl3 2 (by rfl)) rfl;clear hdn hl3;rw[dv2];clear dv2 gs1 gs4 gs5 gs6;have c2:=(HXB.o w' hb.o).cell 2 _ rfl;refine Zab rfl ?_
       go_wp2_with fail
       exact Zaa ⟨_,rfl,đc _ _,rfl⟩
      ·obtain rfl:=đa hi
       clear hdn hl3;rw[gs4];clear gs1 gs4 gs5 gs6;refine Zab rfl ?_
       go_wp2_with fail
       exact Zaa ⟨_,rfl,đc _ _,rfl⟩
      ·obtain rfl:=đa hi
       have dv3:f' 27 = .slice (some ⟨gu,ou,none⟩) un uc:=hdn 3 _ 27 rfl (hl3 3 (by rfl)) rfl;have dv4:f' 28 = .int .i64 (ix:Nat):=hdn 4 _ 28 rfl (hl3 4 (by rfl)) rfl;clear hdn hl3;rw[dv3,dv4];clear dv3 dv4 gs1 gs4 gs5 gs6;have ii:=HII.o;refine Zab rfl ?_
       go_wp2_with fail
       exact Zaa ⟨_,rfl,đc _ _,rfl⟩
      ·obtain rfl:=đa hi
       have dv5:f' 29 = .pointer (some ⟨gu,ou+ix*4,none⟩):=hdn 5 _ 29 rfl (hl3 5 (by rfl)) rfl;clear hdn hl3;rw[dv5];clear dv5 gs1 gs4 gs5 gs6;obtain⟨p0,p1,p2,p3⟩:=HUY.o w' hb.o;refine Zab rfl ?_
       go_wp2_with fail
       exact Zaa ⟨_,rfl,đc _ _,rfl⟩
      ·obtain rfl:=đa hi
       clear hdn hl3;rw[gs6];clear gs1 gs4 gs5 gs6;refine Zab rfl ?_
       go_wp2_with fail
       exact Zaa ⟨_,rfl,đc _ _,rfl⟩
      ·obtain rfl:=đa hi
       have dv1:f' 25 = .agg #[.slice qo qn qc,.slice mo mn mc,.slice (some ⟨gu,ou,none⟩) un uc]:=hdn 1 _ 25 rfl (hl3 1 (by rfl)) rfl;have dv6:f' 30 = .agg #[.int .i64 y0,.int .i64 y1,.int .i64 y2,.int .i64 y3]:=hdn 6 _ 30 rfl (hl3 6 (by rfl)) rfl;have dv7:f' 31 = .int .i64 (k:Nat):=hdn 7 _ 31 rfl (hl3 7 (by rfl)) rfl;clear hdn hl3;rw[dv1,dv6,dv7];clear dv1 dv6 dv7 gs1 gs4 gs5 gs6;refine Zab rfl ?_
       go_wp2_with fail
       refine(HEL.o w' hb.o).mono ?_;rintro e w4 ⟨rfl,b4⟩;have HB4:=ħ b4;clear b4
       go_wp2_with fail
       exact Zaa ⟨_,rfl,HB4.o,rfl⟩
      ·obtain rfl:=đa hi
       have dv8:f' 32 = .bool bb:=hdn 8 _ 32 rfl (hl3 8 (by rfl)) rfl;clear hdn hl3;rw[dv8];clear dv8 gs1 gs4 gs5 gs6;have bx:=(đc w'.heap.size w').alloc (đd _) (.cells #[.bool bb] 4);have HV:Hid (Zae (w'.alloc (.cells #[.bool bb] 4)) w'.heap.size 4 [.bool bb]):=ħ (heap_alloc_new _ _);have BX:=ħ bx;clear bx;refine Zab rfl ?_
       go_wp2_with fail
       exact Zaa ⟨_,rfl,BX.o,w'.heap.size,rfl,hb.o.size,HV.o⟩
     case he =>
      intro listed a' w4 H hsn hall;have hd0:Z3t w.heap.size wr.heap.size gu ou ix k rc un uc qn qc mn mc ro qo mo y0 y1 y2 y3 bb 0 w4 (a'.tmps.getD 24 undef):=H.done 0 _ 24 rfl (hall 0 (by decide)) rfl;have hd9:Z3t w.heap.size wr.heap.size gu ou ix k rc un uc qn qc mn mc ro qo mo y0 y1 y2 y3 bb 9 w4 (a'.tmps.getD 33 undef):=H.done 9 _ 33 rfl (hall 9 (by decide)) rfl;have hb4:=ħ H.below;have hact:=H.actN hsn [24,25,26,27,28,29,30,31,32,33] (Zej (by kernel_rfl));clear H hall hsn;simp only[List.foldl_cons,List.foldl_nil] at hact;generalize a'.tmps.getD 24 undef=z24 at *;generalize a'.tmps.getD 25 undef=z25 at *;generalize a'.tmps.getD 26 undef=z26 at *;generalize a'.tmps.getD 27 undef=z27 at *;generalize a'.tmps.getD 28 undef=z28 at *;generalize a'.tmps.getD 29 undef=z29 at *;generalize a'.tmps.getD 30 undef=z30 at *;generalize a'.tmps.getD 31 undef=z31 at *;generalize a'.tmps.getD 32 undef=z32 at *;generalize a'.tmps.getD 33 undef=z33 at *;subst hact;have e0:z24 = .slice ro k rc:=hd0;subst e0;clear hd0;obtain⟨V,e9,hV0,hV⟩:=hd9;subst e9;simp only[Act.put,List.setIfInBounds_toArray,List.set_cons_succ,List.set_cons_zero];have O7:=ħ (O6.o.below hb4.o);have W7:=ħ (W6.o.trans (hb4.o.mono W6.o.size));have B7:=ħ (B6.o.trans (hb4.o.mono B6.o.size));have S7:=ħ (S6.o.step hb4.o);have X7:=ħ (X6.o.step hb4.o);have R7:=ħ (R6.o.step hb4.o);have HV:=ħ hV;have HSZ:Hid (wo.heap.size<=w4.heap.size/\w.heap.size+1<wo.heap.size/\T<wo.heap.size):=ħ ⟨W7.o.size,by have:=HT5.o;have:=HTB.o;omega,HT5.o⟩;clear hb4 hV hV0 O6 W6 B6 S6 X6 R6 HUY HXB HEL;refine Zas (Zab rfl ?_);refine Z08 87 4 (.bool false) 1 1 Tryz.underlying87 Zt8 rfl (by omega) (by omega) w4 wo.heap.size rfl (.tmp 24) (.tmp 33) rfl ro rc k PR ?q1 O7.o HSZ.o.1 V 1 1 [.bool bb] 4 ?q2 HV.o rfl (by omega) ?q3 (by omega) ?_
      case q1=>rfl
      case q2=>rfl
      case q3=>simp[Value.oneCell']
      intro g5 off5 c5 wa o8 gr8;have O8:=ħ o8;have W8:=ħ (W7.o.trans (Zef O7.o gr8 HSZ.o.1));have B8:=ħ (B7.o.trans ((Zef O7.o gr8 HSZ.o.1).mono B4.o.size));have S8:=ħ (S7.o.grownBy gr8 (fun e=>by have:=(O7.o.blk_lt e).1;have:=HSZ.o;omega));have X8:=ħ (X7.o.grownBy gr8 (fun e=>by have:=(O7.o.blk_lt e).1;have:=HSZ.o;omega));have R8:=ħ (R7.o.grownBy gr8 (fun e=>by have:=(O7.o.blk_lt e).1;have:=HSZ.o;omega));clear o8 gr8 O7 W7 B7 S7 X7 R7 HV
      go_wp2_with fail
      refine Zaa (Zas (Zab rfl ?_))
      go_wp2_with fail
      refine Zaa (Zbm ?_)
      go_wp2_with fail
      go_roundw
      case rel=>exact⟨k+1,some ⟨g5,off5,none⟩,c5,by go_num,by omega,rfl,ħ (by rw[<- HRK.o];exact O8.o),W8,B8,S8,X8,R8⟩
      case measure=>simp only[intOf];omega
    ·have kk:¬ (k:Int)<mn:=by omega
     obtain rfl:mn=k:=by omega
     have E6:Hid (BlE wr (fun g=>wo.heap.size<=g) RW [.slice ro mn rc]):=ħ (Zws (by have:=O6.o;rwa [List.take_of_length_le (by rw[HRL.o];exact đd _)] at this) HRL.o.symm _ (fun g hg=>hg));have L6:Hid (T+1<=wo.heap.size/\T+1<=wr.heap.size):=ħ (by have:=HT5.o;have:=W6.o.size;omega);have M6:=ħ (M4.o.step BlE.keeps W6.o);clear O6 HEL HRG M4;have a3:=S6.o.cell 3 _ rfl
     go_upto_region 10 with(fail)
     clear c1
     go_wp2_with (at_builtin;refine Zcn 86 87 (.slice none 0 0) 1 24 Tryz.underlying86 Zb4 rfl (by omega) (by omega) wr (T+1) rfl (.tmp 36) (.tmp 38) rfl co cc ix vss.flatten ?t1 M6.o.own ?t5 1 1 #[.slice ro mn rc] 87 ?t2 rfl (by omega) ?t3 ?t4 ?_;(case t1=>rfl);(case t5=>exact L6.o.2);(case t2=>rfl);(case t3=>intro u hu;simp at hu;subst hu;rfl);(case t4=>omega);intro g5 off5 c5 wa o8 gr8 b8 or8;have HBG:Hid (T+1<=g5):=ħ (o8.blk_lt (g:=g5) rfl).1;have M8:=ħ (RowM.add BlE.keeps M6.o HBL.o L6.o.1 (fun g hg=>by have:=L6.o;omega) E6.o rfl o8 gr8 or8);have S8:=ħ (S6.o.grownBy gr8 (fun e=>by have:=(M6.o.own.blk_lt e).1;omega));have X8:=ħ (X6.o.grownBy gr8 (fun e=>by have:=(M6.o.own.blk_lt e).1;have:=HTB.o;omega));have R8:=ħ (R6.o.grownBy gr8 (fun e=>by have:=(M6.o.own.blk_lt e).1;have:=HTB.o;omega));have B8:=ħ (B6.o.trans (b8.mono (by have:=HTB.o;omega)));have t3:=S8.o.cell 3 _ rfl;have tf:=S8.o.warm 3;clear a3 o8 gr8 b8 or8)
     clear t3 tf;have on:=(Only.refl wa (· = T)).setCell (a:=⟨T,3,none⟩) (.slice (some ⟨g5,off5,none⟩) (ix+1) c5) rfl;have S9:=ħ (S8.o.set 3 (.slice (some ⟨g5,off5,none⟩) (ix+1) c5));have M9:=ħ (RowM.turn BlE.keeps M8.o on (fun g hg=>.inl hg) (fun g hg e=>by have:=HBG.o;have h:g5=g:=đa hg;omega));have X9:=ħ (X8.o.only on (fun e=>by have:=HTB.o;omega));have R9:=ħ (R8.o.only on (fun e=>by have:=HTB.o;omega));have B9:=ħ (Only.later B8.o on (fun g hg=>by have:=HTB.o;omega));clear on S8 M8 X8 R8 B8;go_roundw
     case rel=>exact⟨ix+1,some ⟨g5,off5,none⟩,c5,vss++[[.slice ro mn rc]],by go_num,by omega,S9,ħ (by rw[HCI.o];exact M9.o),X9,R9,B9⟩
     case measure=>simp only[intOf];omega
  ·have ii:¬ (ix:Int)<un:=by omega
   obtain rfl:un=ix:=by omega
   have HCL:Hid (CF.length=un):=ħ (by rw[HCF.o,đr,HUE.o])
   go_upto_region 11 with(fail)
   clear c2
   go_wp2_with (first | (refine wpList_load_row rfl 137 (.tmp 3) rfl (T) ?xt 137 #[.slice qo qn qc,.slice mo mn mc,.slice uo un uc,.slice co un cc] (0,0) _ S4.o Tryz.underlying137 rfl (Zdr _ _ _ _) ?_;(case xt=>rfl)) | (refine Zaq rfl 137 (.tmp 2) (.tmp 41) rfl (w.heap.size+1) #[.slice qo qn qc,.slice mo mn mc,.slice uo un uc,.slice co un cc] (by rfl) (by rfl) 137 _ R4.o (Zdr _ _ _ _) rfl (by simp[Value.oneCell']) ?_;intro w11 s9 u9;have S11:=ħ s9;have U11:=ħ u9;clear s9 u9))
   have HRB:Hid (Zfb w11 CF co):=ħ (by
    have h:=(M4.o.turn BlE.keeps (U11.o.only (p:=(· = w.heap.size+1)) rfl) (fun g hg=>.inr (by have:=HTB.o;omega)) (fun g hg e=>by have:=(M4.o.own.blk_lt hg).1;have:=HTB.o;omega)).rowsB
    rwa [List.take_of_length_le (by rw[HCL.o];exact đd _)] at h)
   have B11:=ħ (U11.o.below B4.o (by omega));exact bodyPost_ret (results_cell_row (p:=2) (by kernel_rfl) _ _ (w.heap.size+1) 137 #[.slice qo qn qc,.slice mo mn mc,.slice uo un uc,.slice co un cc] (0,0) _ rfl S11.o Tryz.underlying137 rfl (Zdr _ _ _ _)) rfl ⟨⟨_,rfl,HTR.o _ co cc B11.o HRB.o HCL.o⟩,B11.o⟩
end
end Go.Proofs.YtbcgocpihobjnaaGreatDoor
set_option linter.all false
set_option maxHeartbeats 32000000
set_option maxRecDepth 100000
namespace Go.Proofs.YtbcgocpihobjnaaGreatDoor
section
open Go.RowKit Go.Sort Go.Maps
theorem Z4w(t:Array Value)(h:t.size=58):∃ f:Nat->Value,t=#[f 0,f 1,f 2,f 3,f 4,f 5,f 6,f 7,f 8,f 9,f 10,f 11,f 12,f 13,f 14,f 15,f 16,f 17,f 18,f 19,f 20,f 21,f 22,f 23,f 24,f 25,f 26,f 27,f 28,f 29,f 30,f 31,f 32,f 33,f 34,f 35,f 36,f 37,f 38,f 39,f 40,f 41,f 42,f 43,f 44,f 45,f 46,f 47,f 48,f 49,f 50,f 51,f 52,f 53,f 54,f 55,f 56,f 57]:=by
 obtain⟨l⟩:=t;have hl:l.length=58:=h
 have e:l=(List.range 58).map (fun i=>l.getD i undef):=by
  apply List.ext_getElem
  ·simp[hl]
  ·intro i h1 h2
   simp[List.getD,h1]
 exact⟨fun i=>l.getD i undef,congrArg List.toArray e⟩
def Z1n(TB T WS gc oc ix cn cc':Nat)(co' bo:Option Addr)(mn bc kc:Nat)(i:Nat)(W:World)(v:Value):Prop:=match i with
 | 0=>v = .pointer (some ⟨T,3,none⟩)
 | 1=>v = .slice co' ix kc
 | 2=>v = .pointer (some ⟨TB,3,none⟩)
 | 3=>v = .slice (some ⟨gc,oc,none⟩) cn cc'
 | 4=>v = .int .i64 (ix:Nat)
 | 5=>v = .pointer (some ⟨gc,oc+ix,none⟩)
 | 6=>v = .slice bo mn bc
 | 7=>∃ V,v = .slice (some ⟨V,0,none⟩) 1 1/\Zae W V 87 [.slice bo mn bc]
 | 8=>True
 | 9=>v = .pointer (some ⟨T,3,none⟩)
 | _=>True
theorem Zyh(TB T WS gc oc ix cn cc':Nat)(co' bo:Option Addr)(mn bc kc:Nat):∀ i w w' v,Z1n TB T WS gc oc ix cn cc' co' bo mn bc kc i w v->Below w.heap.size w w'->Z1n TB T WS gc oc ix cn cc' co' bo mn bc kc i w' v:=by
 intro i w w' v h hb
 match i with
 | 0=>exact h
 | 1=>exact h
 | 2=>exact h
 | 3=>exact h
 | 4=>exact h
 | 5=>exact h
 | 6=>exact h
 | 7=>obtain⟨V,h1,h3⟩:=h;exact⟨V,h1,h3.step hb⟩
 | 8=>trivial
 | 9=>exact h
 | k+10=>trivial
theorem Zsn {ops:Array Oper} {rest:List Oper} {o:Oper} {a:Act} {Q:Exit->Act->World->Prop} (T E:TypeId) (z:Value) (k bt:Nat)
  (hT:Tryz.prog.underlying T=some (.slice E)) (hE:(Tryz.prog.info? E).map (fun i=>(i.zero,i.size,i.bytes))=some (some z,k,bt)) (hz:z.cells.size=k) (hk:0<k) (hbt:bt<=1000)
  (w:World) (B:Nat) (hg:o.guard=none) (s x:Operand) (hop:o.op=Op.call { callee:=Callee.builtin Builtin.append,args:=#[s,x],argTypes:=#[T,T] })
  (ao:Option Addr) (cap n:Nat) (xs:List Value) (hs:a.eval s = .slice ao n cap) (hO:OwnK w B k n cap xs ao) (hB:B<=w.heap.size)
  (A m c:Nat) (cs:List Value) (te:TypeId) (hx:a.eval x = .slice (some ⟨A,0,none⟩) m c) (hA:Zae w A te cs) (hm:cs.length=m*k) (hm0:0<m) (h1c:∀ u∈cs,u.oneCell'=true)
  (b1:n+m<=1000000000)
  (hK:∀ g off cap' w',OwnK w' B k (n+m) cap' (xs++cs) (some ⟨g,off,none⟩)->w.grownBy w' (blk ao)->(blk ao=some g\/w.heap.size<=g)->wpList Tryz.prog ops Q rest (a.put o.dst (.slice (some ⟨g,off,none⟩) (n+m) cap')) w') :
  wpList Tryz.prog ops Q (o::rest) a w:=by
 obtain⟨i0,hi,hz0,hz1,hz2⟩:=Zd8 hE;exact Zby w B k hk hg s x T hop E i0 z bt hT hi hz0 hz1 hz2 hz ao cap xs n hs hO hB ⟨A,0,none⟩ m c cs hx hm hm0 (fun j u hj=>hA.addr j u hj) h1c (by simp only[maxLen];omega) (đo (Nat.mul_le_mul b1 hbt) (by decide)) hK
theorem Zua{c:Crw}{C:List (List Bool)}{u m i:Nat}(h:i≠u):(Zcy c C u m)[i]?=C[i]?:=by unfold Zcy;rw[List.getElem?_set_ne (fun e=>h e.symm)]
theorem Z1a{c:Crw}{C:List (List Bool)}{u m:Nat}(h:u<C.length):(Zcy c C u m)[u]?=some ((List.replicate c.ms.length false).set m ((C.getD u []).getD m false)):=by unfold Zcy;rw[List.getElem?_set_self h]
theorem Zkd{α:Type}{l:List α}{i:Nat}{x:α}(h:l[i]?=some x):l.take (i+1)=l.take i++[x]:=by rw[đv,h];rfl
def Zqr(w:World)(D:Nat->Prop)(rows:List (List Bool))(ao:Option Addr):Prop:=rows=[]\/∃ g off,ao=some ⟨g,off,none⟩/\g<w.heap.size/\¬ D g/\∀ i row,rows[i]?=some row->∃ bo bc,w.cell? ⟨g,off+i,none⟩=some (.slice bo row.length bc)/\(row=[]\/∃ g2 o2,bo=some ⟨g2,o2,none⟩/\g2<w.heap.size/\¬ D g2/\Zav w g2 o2 (row.flatMap Zc5))
theorem Zfb.rowsD{w:World}{rows:List (List Bool)}{ao:Option Addr}(h:Zfb w rows ao){D:Nat->Prop}(hD:∀ g,g<w.heap.size->¬ D g):Zqr w D rows ao:=by
 rcases h with h | ⟨g,off,h1,h2,h3⟩
 ·exact .inl h
 ·refine .inr ⟨g,off,h1,h2,hD g h2,fun i row hi=>?_⟩
  obtain⟨bo,bc,h4,h5⟩:=h3 i row hi;refine⟨bo,bc,h4,?_⟩;rcases h5 with h5 | ⟨g2,o2,h6,h7,h8⟩
  ·exact .inl h5
  ·exact .inr ⟨g2,o2,h6,h7,hD g2 h7,h8⟩
theorem Zqr.rowsB{w:World}{D:Nat->Prop}{rows:List (List Bool)}{ao:Option Addr}(h:Zqr w D rows ao):Zfb w rows ao:=by
 rcases h with h | ⟨g,off,h1,h2,-,h3⟩
 ·exact .inl h
 ·refine .inr ⟨g,off,h1,h2,fun i row hi=>?_⟩
  obtain⟨bo,bc,h4,h5⟩:=h3 i row hi;refine⟨bo,bc,h4,?_⟩;rcases h5 with h5 | ⟨g2,o2,h6,h7,-,h8⟩
  ·exact .inl h5
  ·exact .inr ⟨g2,o2,h6,h7,h8⟩
theorem RowM.rowsD{base lo n cp:Nat}{w:World}{bad D:Nat->Prop}{ao:Option Addr}{rows:List (List Bool)}{vss:List (List Value)}(h:RowM BlE 1 base w lo bad ao n cp rows vss)(hD:∀ g,D g->bad g)(hlo:∀ g,D g->g<lo):Zqr w D rows ao:=by
 rcases Nat.eq_zero_or_pos rows.length with h0 | h0
 ·exact .inl (List.eq_nil_of_length_eq_zero h0)
 ·obtain⟨g,off,vs,h1,h2,hl,-⟩:=h.at 0 rows[0] (đb h0)
  refine .inr ⟨g,off,h1,h2,fun e=>by have:=hlo g e;omega,fun i row hi=>?_⟩;obtain⟨g',off',vs',h1',h2',-,-,-,h3',bo,bc,rfl,h5⟩:=h.at i row hi;rw[h1] at h1';cases h1';have:=h3' 0 _ rfl;rw[Nat.mul_one,Nat.add_zero] at this;refine⟨bo,bc,this,?_⟩;rcases h5 with h6 | ⟨g2,off2,h6,hp,h7,h8⟩
  ·exact .inl h6
  ·exact .inr ⟨g2,off2,h6,h7,fun e=>hp.2.1 (hD g2 e),h8⟩
theorem Z1b{w W:World}{row:List Bool}{bo:Option Addr}{bc:Nat}{D:Nat->Prop}(h:row=[]\/∃ g2 o2,bo=some ⟨g2,o2,none⟩/\g2<w.heap.size/\¬ D g2/\Zav w g2 o2 (row.flatMap Zc5))(hb:Below w.heap.size w W)(P:Nat->Prop)(hP:∀ g,g<w.heap.size->¬ D g->P g):BlE W P row [.slice bo row.length bc]:=by
 refine⟨bo,bc,rfl,?_⟩;rcases h with h | ⟨g,off,h1,h2,hd,h3⟩
 ·exact .inl h
 ·exact .inr ⟨g,off,h1,hP g h2 hd,đm h2 hb.size,h3.of_block (hb.block g h2)⟩
theorem Zqs(w:World)(c:Crw)(C:List (List Bool))(qo mo uo co:Option Addr)(qc mc uc cc:Nat)(D:Nat->Prop)(hD:∀ g,D g->g<w.heap.size)(hr0:Zqr w D C co)(hC:∀ r∈C,r.length=c.ms.length)(hcn:C.length<=1000)(hmn:c.ms.length<=1000)(u m:Nat)(hu:u<C.length)(hm:m<c.ms.length) :
  Calls Tryz.prog 115 #[.agg #[.slice qo c.qs.length qc,.slice mo c.ms.length mc,.slice uo c.us.length uc,.slice co C.length cc],.int .i64 (u:Nat),.int .i64 (m:Nat)] w fun e w'=>(∃ co' cc',e = .returned (.agg #[.slice qo c.qs.length qc,.slice mo c.ms.length mc,.slice uo c.us.length uc,.slice co' C.length cc'])/\Zqr w' D (Zcy c C u m) co')/\Below w.heap.size w w':=by
 have HRB:Hid (∀ i row,C[i]?=some row->∃ g off bo bc,co=some ⟨g,off,none⟩/\g<w.heap.size/\w.cell? ⟨g,off+i,none⟩=some (.slice bo row.length bc)/\(row=[]\/∃ g2 o2,bo=some ⟨g2,o2,none⟩/\g2<w.heap.size/\¬ D g2/\Zav w g2 o2 (row.flatMap Zc5))):=ħ (fun i row hi=>by
  rcases hr0 with h | ⟨g,off,h1,h2,-,h3⟩
  ·rw[h] at hi;simp at hi
  ·obtain⟨bo,bc,h4,h5⟩:=h3 i row hi
   exact⟨g,off,bo,bc,h1,h2,h4,h5⟩)
 have HDD:=ħ hD;have HLR:Hid (∀ (i:Nat) (r:List Bool),C[i]?=some r->r.length=c.ms.length):=ħ (fun i (r:List Bool) hi=>hC r (đe hi));have HFL:=ħ (Znd c C u m);have HFO:=ħ (fun i (hi:i≠u)=>Zua (c:=c) (C:=C) (m:=m) hi);have HFU:=ħ (Z1a (c:=c) (m:=m) hu);have HRU:Hid (∃ r,C[u]?=some r/\(C.getD u [])=r):=ħ ⟨_,đb hu,by rw[đf,đb hu];rfl⟩;clear hr0 hC hD;obtain⟨FX,hFX⟩:∃ F,Zcy c C u m=F:=⟨_,rfl⟩;rw[hFX] at HFL HFU ⊢;have HFO:Hid (∀ i,i≠u->FX[i]?=C[i]?):=ħ (fun i hi=>by rw[<- hFX];exact HFO.o i hi);clear hFX;obtain⟨cn,hcl⟩:∃ n,C.length=n:=⟨_,rfl⟩;rw[hcl] at HFL hcn hu ⊢;have HCL:=ħ hcl;generalize c.qs.length=qn at *;generalize c.ms.length=mn at *;generalize c.us.length=un at *;clear hcl;obtain⟨X1,R1,B1,hs1⟩:=Zig w 137 137 [.slice qo qn qc,.slice mo mn mc,.slice uo un uc,.slice co cn cc] [.slice none 0 0,.slice none 0 0,.slice none 0 0,.slice none 0 0];have X1:=ħ X1;have R1:=ħ R1;have B1:=ħ B1
 go_enter Tryz.func115,Tryz.ntmps115
 go_upto_region 1 with(fail)
 have HS1:=ħ hs1;clear hs1;generalize (w.alloc (.cells #[.slice qo qn qc,.slice mo mn mc,.slice uo un uc,.slice co cn cc] 137)).alloc (.cells #[.slice none 0 0,.slice none 0 0,.slice none 0 0,.slice none 0 0] 137)=w1 at *;have O1:Hid (Zae (w1.alloc (.cells #[.slice none 0 0,.slice none 0 0,.slice none 0 0,.slice none 0 0] 137)) w1.heap.size 137 [.slice none 0 0,.slice none 0 0,.slice none 0 0,.slice none 0 0]):=ħ (heap_alloc_new w1 _);have BO:=ħ ((đc w1.heap.size w1).alloc (đd _) (.cells #[.slice none 0 0,.slice none 0 0,.slice none 0 0,.slice none 0 0] 137));have c0:=X1.o.cell 0 _ rfl;have c1:=X1.o.cell 1 _ rfl;have c2:=X1.o.cell 2 _ rfl
 go_upto_region 2 with(refine Zaq rfl 137 (.tmp 7) (.tmp 12) rfl w1.heap.size #[.slice qo qn qc,.slice mo mn mc,.slice uo un uc,.slice none 0 0] (by rfl) (by rfl) 137 _ O1.o (Zdr _ _ _ _) rfl (by simp[Value.oneCell']) ?_;intro w9 s9 u9;have S9:=ħ s9;have U9:=ħ u9;clear s9 u9)
 clear c0 c1 c2;have A9:=ħ (U9.o.below BO.o (đd _));have S9:Hid (Zae w9 w1.heap.size 137 [.slice qo qn qc,.slice mo mn mc,.slice uo un uc,.slice none 0 0]):=ħ S9.o;have X9:=ħ (X1.o.step A9.o);have R9:=ħ (R1.o.step A9.o);have L9:=ħ (B1.o.trans (A9.o.mono B1.o.size));obtain⟨T,hT⟩:∃ T,w1.heap.size=T:=⟨_,rfl⟩;rw[hT] at S9 ⊢;have HTB:Hid (T=w.heap.size+2):=ħ (by rw[<- hT];exact HS1.o);clear O1 BO U9 X1 R1 B1 A9 hT HS1;have M9:Hid (RowM BlE 1 0 w9 (T+1) (fun g=>g=T\/g=w.heap.size+1\/D g) none 0 0 (FX.take 0) []):=ħ (by rw[List.take_zero];exact RowM.nil _ _ _)
 go_upto_region 3 with(fail)
 go_loopw [8] (fun iv wr=>∃ (i:Nat) (co':Option Addr) (kc:Nat) (vss:List (List Value)),iv = .int .i64 i/\i<=cn/\Hid (Zae wr T 137 [.slice qo qn qc,.slice mo mn mc,.slice uo un uc,.slice co' i kc])/\Hid (RowM BlE 1 0 wr (T+1) (fun g=>g=T\/g=w.heap.size+1\/D g) co' i kc (FX.take i) vss)/\Hid (Zae wr w.heap.size 137 [.slice qo qn qc,.slice mo mn mc,.slice uo un uc,.slice co cn cc])/\Hid (Zae wr (w.heap.size+1) 137 [.slice none 0 0,.slice none 0 0,.slice none 0 0,.slice none 0 0])/\Hid (Below w.heap.size w wr)) (fun i _=>(cn-intOf i).toNat)
 case atStart=>exact⟨0,none,0,[],rfl,by omega,S9,M9,X9,R9,L9⟩
 case round =>
  clear S9 M9 X9 R9 L9;obtain⟨ix,co',kc,vss,rfl,hi,S4,M4,X4,R4,B4⟩:=hrel;have e2:IntKind.i64.wrap ((ix:Int)+1)=((ix+1:Nat):Int):=đh _ (by omega);have c3:=X4.o.cell 3 _ rfl;by_cases hlt:ix<cn
  ·have ii:(ix:Int)<cn:=by omega
   have HII:=ħ ii;obtain⟨row,hrow⟩:∃ r,C[ix]?=some r:=⟨_,đb (by rw[HCL.o];exact hlt)⟩;have HRL:=ħ (HLR.o ix row hrow);obtain⟨gc,oc,bo,bc,hco,hgc,hcell,hfl⟩:=HRB.o ix row hrow;rw[HRL.o] at hcell;have HRW:=ħ (fun W (hW:Below w.heap.size w W)=>(hW.cell (p:=⟨gc,oc+ix,none⟩) hgc).trans hcell);have HBE:=ħ (fun W (hW:Below w.heap.size w W) P (hP:∀ g,g<w.heap.size->¬ D g->P g)=>Z1b (bc:=bc) hfl hW P hP);rw[HRL.o] at HBE;have HFR:Hid (Zan Zc5 w bo row):=ħ (by rcases hfl with h | ⟨g2,o2,h1,h2,-,h3⟩;exact .inl h;exact .inr ⟨g2,o2,h1,h2,h3⟩);have HBL:Hid (∀ g,blk co'=some g->T+1<=g/\g<wr.heap.size):=ħ (fun g hg=>M4.o.own.blk_lt hg);have HTL:=ħ S4.o.lt;subst hco;clear hgc hcell hfl;by_cases heq:ix=u
   ·subst heq
    have q0:((ix:Int) != (ix:Int))=false:=by simp
    obtain⟨xb,hxb⟩:∃ b,row.getD m false=b:=⟨_,rfl⟩
    have HXB2:Hid ((C.getD ix []).getD m false=xb):=ħ (by
     rw[<- hxb,đf (l:=C),hrow];rfl)
    have HFN:Hid (FX.take (ix+1)=FX.take ix++[(List.replicate mn false).set m xb]):=ħ (by rw[Zkd HFU.o,HXB2.o])
    have hml:m<row.length:=by rw[HRL.o];exact hm
    obtain⟨g2,o2,hbo,hg2,hcc⟩:=HFR.o.at Zg5 m row[m] (đb hml)
    have y0:w.cell? ⟨g2,o2+m,none⟩=some (.bool xb):=by
     have h:=hcc 0 _ rfl;rw[Nat.mul_one,Nat.add_zero] at h;rw[h,<- hxb,đf,đb hml];rfl
    have HYB:=ħ (fun W (hW:Below w.heap.size w W)=>(hW.cell (p:=⟨g2,o2+m,none⟩) hg2).trans y0);subst hbo;clear hcc y0 hg2 hxb hrow HBE HFR;have y1:=HRW.o wr B4.o
    have mm:(m:Int)<(mn:Nat):=by omega
    have hmk:=run_make_row' (P:=Tryz.prog) 87 4 (.bool false) 1 Tryz.underlying87 Zdl rfl .i64 .i64 mn (by omega) (by omega);rw[Zew] at hmk;have V5:=ħ (Zae.new wr 4 (bvs (List.replicate mn false)));have bx:=((đc wr.heap.size wr).alloc (đd _) (.cells (bvs (List.replicate mn false)).toArray 4));have BX:=ħ bx;clear bx
    go_upto_region 8 with(fail)
    clear hmk c3 y1 q0;have c3:=(X4.o.step BX.o).cell 3 _ rfl;have y1:=HRW.o _ (B4.o.trans (BX.o.mono B4.o.size));have y2:=HYB.o _ (B4.o.trans (BX.o.mono B4.o.size));have v0:=V5.o.cell m _ (show(bvs (List.replicate mn false))[m]?=some (.bool false) by unfold bvs;rw[đj,List.getElem?_replicate,if_pos hm];rfl);have vf:=V5.o.warm m
    have hbv:(bvs (List.replicate mn false)).set m (.bool xb)=bvs ((List.replicate mn false).set m xb):=by unfold bvs;rw[List.map_set]
    generalize wr.alloc (.cells (bvs (List.replicate mn false)).toArray 4)=w5 at *;have V6:Hid (Zae (w5.setCell ⟨wr.heap.size,m,none⟩ (.bool xb)) wr.heap.size 4 (bvs ((List.replicate mn false).set m xb))):=ħ (by rw[<- hbv];exact V5.o.set m _);have BW:=ħ (BX.o.setCell (p:=⟨wr.heap.size,m,none⟩) (đd _) (.bool xb));have S6:=ħ (S4.o.step BW.o);have X6:=ħ (X4.o.step BW.o);have R6:=ħ (R4.o.step BW.o);have B6:=ħ (B4.o.trans (BW.o.mono B4.o.size));have M6:=ħ (M4.o.step BlE.keeps BW.o);clear V5 S4 X4 R4 M4 BX hbv BW
    go_upto_region 9 with(fail)
    clear c3 y1 y2 v0 vf;generalize w5.setCell ⟨wr.heap.size,m,none⟩ (.bool xb)=w6 at *;obtain⟨V,hVV⟩:∃ V,wr.heap.size=V:=⟨_,rfl⟩;rw[hVV] at V6 HBL HTL ⊢;have HVB:Hid (w.heap.size<=V):=ħ (by rw[<- hVV];exact B4.o.size);clear hVV B4;have s3:=S6.o.cell 3 _ rfl;have HRN:Hid (((List.replicate mn false).set m xb).length=mn):=ħ (by rw[List.length_set,List.length_replicate])
    have E6:Hid (BlE w6 (fun g=>0<=g/\¬ (g=T\/g=w.heap.size+1\/D g)/\blk co'≠some g) ((List.replicate mn false).set m xb) [.slice (some ⟨V,0,none⟩) mn mn]):=ħ (by
     have hh:=Zr3 (cap:=mn) V6.o (fun g=>0<=g/\¬ (g=T\/g=w.heap.size+1\/D g)/\blk co'≠some g) ⟨Nat.zero_le _,fun e=>by have:=HTL.o;have:=HVB.o;have:=HTB.o;rcases e with e | e | e;omega;omega;have:=HDD.o V e;omega,fun e=>by have:=HBL.o V e;omega⟩
     rwa [HRN.o] at hh)
    have HVL:Hid (T+1<=w6.heap.size):=ħ (by have:=V6.o.lt;have:=HTL.o;omega)
    go_wp2_with (at_builtin;refine Zcn 86 87 (.slice none 0 0) 1 24 Tryz.underlying86 Zb4 rfl (by omega) (by omega) w6 (T+1) rfl (.tmp 52) (.tmp 54) rfl co' kc ix vss.flatten ?t1 M6.o.own ?t5 1 1 #[.slice (some ⟨V,0,none⟩) mn mn] 87 ?t2 rfl (by omega) ?t3 ?t4 ?_;(case t1=>rfl);(case t5=>exact HVL.o);(case t2=>rfl);(case t3=>intro u hu;simp at hu;subst hu;rfl);(case t4=>omega);intro g5 off5 c5 wa o8 gr8 b8 or8;have HBG:Hid (T+1<=g5):=ħ (o8.blk_lt (g:=g5) rfl).1;have M8:=ħ (RowM.addS BlE.keeps M6.o E6.o rfl o8 gr8 or8);have S8:=ħ (S6.o.grownBy gr8 (fun e=>by have:=HBL.o _ e;omega));have X8:=ħ (X6.o.grownBy gr8 (fun e=>by have:=HBL.o _ e;have:=HTB.o;omega));have R8:=ħ (R6.o.grownBy gr8 (fun e=>by have:=HBL.o _ e;have:=HTB.o;omega));have B8:=ħ (B6.o.trans (b8.mono (by have:=HTB.o;omega)));have t3:=S8.o.cell 3 _ rfl;have tf:=S8.o.warm 3;clear s3 o8 gr8 b8 or8)
    clear t3 tf;have on:=(Only.refl wa (· = T)).setCell (a:=⟨T,3,none⟩) (.slice (some ⟨g5,off5,none⟩) (ix+1) c5) rfl;have S9:=ħ (S8.o.set 3 (.slice (some ⟨g5,off5,none⟩) (ix+1) c5));have M9:=ħ (RowM.turn BlE.keeps M8.o on (fun g hg=>.inl (.inl hg)) (fun g hg e=>by have:=HBG.o;have h:g5=g:=đa hg;omega));have X9:=ħ (X8.o.only on (fun e=>by have:=HTB.o;omega));have R9:=ħ (R8.o.only on (fun e=>by have:=HTB.o;omega));have B9:=ħ (Only.later B8.o on (fun g hg=>by have:=HTB.o;omega));clear on S8 M8 X8 R8 B8;go_roundw
    case rel=>exact⟨ix+1,some ⟨g5,off5,none⟩,c5,vss++[[.slice (some ⟨V,0,none⟩) mn mn]],by go_num,by omega,S9,ħ (by rw[HFN.o];exact M9.o),X9,R9,B9⟩
    case measure=>simp only[intOf];omega
   ·have q0:((ix:Int) != (u:Int))=true:=by simp;omega
    have HFN:Hid (FX.take (ix+1)=FX.take ix++[row]):=ħ (Zkd (by rw[HFO.o ix heq];exact hrow));have HSB:=ħ (fun W (hW:Below wr.heap.size wr W)=>S4.o.step hW);have HXB:=ħ (fun W (hW:Below wr.heap.size wr W)=>X4.o.step hW);have HRW:=ħ (fun W (hW:Below wr.heap.size wr W)=>HRW.o W (B4.o.trans (hW.mono B4.o.size)));clear hrow HFR
    go_upto_region 6 with(fail)
    clear c3 q0;refine Zk8 8 (Z1n w.heap.size T wr.heap.size gc oc ix cn cc co' bo mn bc kc) (by kernel_rfl) rfl (Zyh w.heap.size T wr.heap.size gc oc ix cn cc co' bo mn bc kc) (Zy8 (by kernel_rfl)) (Z1w (by kernel_rfl)) (Zax (by kernel_rfl)) (Zq8 (by kernel_rfl)) (Zq8 (by kernel_rfl)) ?hs ?hA ?hB
    case hs =>
     intro i o hin hi listed a' w' H hsn hl2;have hl3:=Zap hl2;have hb:=ħ H.below;have s3:=hsn 3 (Zjh (by kernel_rfl));have s7:=hsn 7 (Zjh (by kernel_rfl));have s8:=hsn 8 (Zjh (by kernel_rfl));have hdn:=H.done;have hdf:=H.defers;have hts:=H.tsize;clear hl2 H hsn;obtain⟨t',df⟩:=a';obtain⟨f',rfl⟩:=Z4w t' hts;have hdf':df=[]:=hdf;subst hdf';have gs3:f' 3 = .pointer (some ⟨w.heap.size,0,none⟩):=s3;have gs7:f' 7 = .pointer (some ⟨T,0,none⟩):=s7;have gs8:f' 8 = .int .i64 (ix:Nat):=s8;clear s3 s7 s8;clear hdf hts;have hcases:=Zqq i hin;clear hin;rcases hcases with rfl | rfl | rfl | rfl | rfl | rfl | rfl | rfl | rfl
     ·obtain rfl:=đa hi
      clear hdn hl3;rw[gs7];clear gs3 gs7 gs8;refine Zab rfl ?_
      go_wp2_with fail
      exact Zaa ⟨_,rfl,đc _ _,rfl⟩
     ·obtain rfl:=đa hi
      have dv0:f' 23 = .pointer (some ⟨T,3,none⟩):=hdn 0 _ 23 rfl (hl3 0 (by rfl)) rfl;clear hdn hl3;rw[dv0];clear dv0 gs3 gs7 gs8;have c3:=(HSB.o w' hb.o).cell 3 _ rfl;refine Zab rfl ?_
      go_wp2_with fail
      exact Zaa ⟨_,rfl,đc _ _,rfl⟩
     ·obtain rfl:=đa hi
      clear hdn hl3;rw[gs3];clear gs3 gs7 gs8;refine Zab rfl ?_
      go_wp2_with fail
      exact Zaa ⟨_,rfl,đc _ _,rfl⟩
     ·obtain rfl:=đa hi
      have dv2:f' 25 = .pointer (some ⟨w.heap.size,3,none⟩):=hdn 2 _ 25 rfl (hl3 2 (by rfl)) rfl;clear hdn hl3;rw[dv2];clear dv2 gs3 gs7 gs8;have c3:=(HXB.o w' hb.o).cell 3 _ rfl;refine Zab rfl ?_
      go_wp2_with fail
      exact Zaa ⟨_,rfl,đc _ _,rfl⟩
     ·obtain rfl:=đa hi
      clear hdn hl3;rw[gs8];clear gs3 gs7 gs8;refine Zab rfl ?_
      go_wp2_with fail
      exact Zaa ⟨_,rfl,đc _ _,rfl⟩
     ·obtain rfl:=đa hi
      have dv3:f' 26 = .slice (some ⟨gc,oc,none⟩) cn cc:=hdn 3 _ 26 rfl (hl3 3 (by rfl)) rfl;have dv4:f' 27 = .int .i64 (ix:Nat):=hdn 4 _ 27 rfl (hl3 4 (by rfl)) rfl;clear hdn hl3;rw[dv3,dv4];clear dv3 dv4 gs3 gs7 gs8;have ii:=HII.o;refine Zab rfl ?_
      go_wp2_with fail
      exact Zaa ⟨_,rfl,đc _ _,rfl⟩
     ·obtain rfl:=đa hi
      have dv5:f' 28 = .pointer (some ⟨gc,oc+ix,none⟩):=hdn 5 _ 28 rfl (hl3 5 (by rfl)) rfl;clear hdn hl3;rw[dv5];clear dv5 gs3 gs7 gs8;have p0:=HRW.o w' hb.o;refine Zab rfl ?_
      go_wp2_with fail
      exact Zaa ⟨_,rfl,đc _ _,rfl⟩
     ·obtain rfl:=đa hi
      have dv6:f' 29 = .slice bo mn bc:=hdn 6 _ 29 rfl (hl3 6 (by rfl)) rfl;clear hdn hl3;rw[dv6];clear dv6 gs3 gs7 gs8;have bx:=(đc w'.heap.size w').alloc (đd _) (.cells #[.slice bo mn bc] 87);have HV:Hid (Zae (w'.alloc (.cells #[.slice bo mn bc] 87)) w'.heap.size 87 [.slice bo mn bc]):=ħ (heap_alloc_new _ _);have BX:=ħ bx;clear bx;refine Zab rfl ?_
      go_wp2_with fail
      exact Zaa ⟨_,rfl,BX.o,w'.heap.size,rfl,HV.o⟩
     ·obtain rfl:=đa hi
      clear hdn hl3;rw[gs7];clear gs3 gs7 gs8;refine Zab rfl ?_
      go_wp2_with fail
      exact Zaa ⟨_,rfl,đc _ _,rfl⟩
    case hA =>
     intro listed a' w4 H hsn hall hstr;have hd1:Z1n w.heap.size T wr.heap.size gc oc ix cn cc co' bo mn bc kc 1 w4 (a'.tmps.getD 24 undef):=H.done 1 _ 24 rfl (hall 1 (by decide)) rfl;have hd7:Z1n w.heap.size T wr.heap.size gc oc ix cn cc co' bo mn bc kc 7 w4 (a'.tmps.getD 30 undef):=H.done 7 _ 30 rfl (hall 7 (by decide)) rfl;have hd9:Z1n w.heap.size T wr.heap.size gc oc ix cn cc co' bo mn bc kc 9 w4 (a'.tmps.getD 32 undef):=H.done 9 _ 32 rfl hstr rfl;have hb4:=ħ H.below;have hact:=H.actX hsn [23,24,25,26,27,28,29,30,32] (Zva (by kernel_rfl));clear H hall hsn hstr;simp only[List.foldl_cons,List.foldl_nil] at hact;generalize a'.tmps.getD 23 undef=z23 at *;generalize a'.tmps.getD 24 undef=z24 at *;generalize a'.tmps.getD 25 undef=z25 at *;generalize a'.tmps.getD 26 undef=z26 at *;generalize a'.tmps.getD 27 undef=z27 at *;generalize a'.tmps.getD 28 undef=z28 at *;generalize a'.tmps.getD 29 undef=z29 at *;generalize a'.tmps.getD 30 undef=z30 at *;generalize a'.tmps.getD 32 undef=z32 at *;subst hact;have e1:z24 = .slice co' ix kc:=hd1;subst e1;clear hd1;obtain⟨V,e7,hV⟩:=hd7;subst e7;have e9:z32 = .pointer (some ⟨T,3,none⟩):=hd9;subst e9;clear hd9;simp only[Act.put,List.setIfInBounds_toArray,List.set_cons_succ,List.set_cons_zero];have HV:=ħ hV;have S5:=ħ (S4.o.step hb4.o);have X5:=ħ (X4.o.step hb4.o);have R5:=ħ (R4.o.step hb4.o);have M5:=ħ (M4.o.step BlE.keeps hb4.o);have B5:=ħ (B4.o.trans (hb4.o.mono B4.o.size));have E5:=ħ (HBE.o w4 B5.o (fun g=>0<=g/\¬ (g=T\/g=w.heap.size+1\/D g)/\blk co'≠some g) (fun g hg hd=>⟨Nat.zero_le _,fun e=>by have:=HTB.o;rcases e with e | e | e;omega;omega;exact hd e,fun e=>by have:=HBL.o g e;have:=HTB.o;omega⟩));have HVL:Hid (T+1<=w4.heap.size):=ħ S5.o.lt;clear hV hb4 HSB HXB HRW HBE S4 X4 R4 M4 B4;refine(Zab rfl ?_);refine Zsn 86 87 (.slice none 0 0) 1 24 Tryz.underlying86 Zb4 rfl (by omega) (by omega) w4 (T+1) rfl (.tmp 24) (.tmp 30) rfl co' kc ix vss.flatten ?r1A M5.o.own HVL.o V 1 1 [.slice bo mn bc] 87 ?r2A HV.o rfl (by omega) ?r3A (by omega) ?_
     case r1A=>rfl
     case r2A=>rfl
     case r3A=>simp[Value.oneCell']
     intro g5 off5 c5 wa o8 gr8 or8;have HBG:Hid (T+1<=g5):=ħ (o8.blk_lt (g:=g5) rfl).1;have M8:=ħ (RowM.addS BlE.keeps M5.o E5.o rfl o8 gr8 or8);have S8:=ħ (S5.o.grownBy gr8 (fun e=>by have:=HBL.o _ e;omega));have X8:=ħ (X5.o.grownBy gr8 (fun e=>by have:=HBL.o _ e;have:=HTB.o;omega));have R8:=ħ (R5.o.grownBy gr8 (fun e=>by have:=HBL.o _ e;have:=HTB.o;omega));have B8:=ħ (B5.o.trans ((Zef M5.o.own gr8 HVL.o).mono (by have:=HTB.o;omega)));clear o8 gr8 or8 S5 X5 R5 M5 B5 E5 HV;have t3:=S8.o.cell 3 _ rfl;have tf:=S8.o.warm 3;have on:=(Only.refl wa (· = T)).setCell (a:=⟨T,3,none⟩) (.slice (some ⟨g5,off5,none⟩) (ix+1) c5) rfl;have S9:=ħ (S8.o.set 3 (.slice (some ⟨g5,off5,none⟩) (ix+1) c5));have M9:=ħ (RowM.turn BlE.keeps M8.o on (fun g hg=>.inl (.inl hg)) (fun g hg e=>by have:=HBG.o;have h:g5=g:=đa hg;omega));have X9:=ħ (X8.o.only on (fun e=>by have:=HTB.o;omega));have R9:=ħ (R8.o.only on (fun e=>by have:=HTB.o;omega));have B9:=ħ (Only.later B8.o on (fun g hg=>by have:=HTB.o;omega));clear on S8 M8 X8 R8 B8
     go_wp2_with fail
     refine Zaa (Zas (Zab rfl ?_))
     go_wp2_with fail
     refine Zaa (Zbm ?_);clear t3 tf;generalize wa.setCell ⟨T,3,none⟩ (.slice (some ⟨g5,off5,none⟩) (ix+1) c5)=wz at *
     go_wp2_with fail
     go_roundw
     case rel=>exact⟨ix+1,some ⟨g5,off5,none⟩,c5,vss++[[.slice bo mn bc]],by go_num,by omega,S9,ħ (by rw[HFN.o];exact M9.o),X9,R9,B9⟩
     case measure=>simp only[intOf];omega
    case hB =>
     intro listed a' w4 H hsn hall;have hd1:Z1n w.heap.size T wr.heap.size gc oc ix cn cc co' bo mn bc kc 1 w4 (a'.tmps.getD 24 undef):=H.done 1 _ 24 rfl (hall 1 (by decide)) rfl;have hd7:Z1n w.heap.size T wr.heap.size gc oc ix cn cc co' bo mn bc kc 7 w4 (a'.tmps.getD 30 undef):=H.done 7 _ 30 rfl (hall 7 (by decide)) rfl;have hb4:=ħ H.below;have hact:=H.actX hsn [23,24,25,26,27,28,29,30,32] (Zva (by kernel_rfl));clear H hall hsn;simp only[List.foldl_cons,List.foldl_nil] at hact;generalize a'.tmps.getD 23 undef=z23 at *;generalize a'.tmps.getD 24 undef=z24 at *;generalize a'.tmps.getD 25 undef=z25 at *;generalize a'.tmps.getD 26 undef=z26 at *;generalize a'.tmps.getD 27 undef=z27 at *;generalize a'.tmps.getD 28 undef=z28 at *;generalize a'.tmps.getD 29 undef=z29 at *;generalize a'.tmps.getD 30 undef=z30 at *;generalize a'.tmps.getD 32 undef=z32 at *;subst hact;have e1:z24 = .slice co' ix kc:=hd1;subst e1;clear hd1;obtain⟨V,e7,hV⟩:=hd7;subst e7;simp only[Act.put,List.setIfInBounds_toArray,List.set_cons_succ,List.set_cons_zero];have HV:=ħ hV;have S5:=ħ (S4.o.step hb4.o);have X5:=ħ (X4.o.step hb4.o);have R5:=ħ (R4.o.step hb4.o);have M5:=ħ (M4.o.step BlE.keeps hb4.o);have B5:=ħ (B4.o.trans (hb4.o.mono B4.o.size));have E5:=ħ (HBE.o w4 B5.o (fun g=>0<=g/\¬ (g=T\/g=w.heap.size+1\/D g)/\blk co'≠some g) (fun g hg hd=>⟨Nat.zero_le _,fun e=>by have:=HTB.o;rcases e with e | e | e;omega;omega;exact hd e,fun e=>by have:=HBL.o g e;have:=HTB.o;omega⟩));have HVL:Hid (T+1<=w4.heap.size):=ħ S5.o.lt;clear hV hb4 HSB HXB HRW HBE S4 X4 R4 M4 B4;refine Zas (Zab rfl ?_);refine Zsn 86 87 (.slice none 0 0) 1 24 Tryz.underlying86 Zb4 rfl (by omega) (by omega) w4 (T+1) rfl (.tmp 24) (.tmp 30) rfl co' kc ix vss.flatten ?r1B M5.o.own HVL.o V 1 1 [.slice bo mn bc] 87 ?r2B HV.o rfl (by omega) ?r3B (by omega) ?_
     case r1B=>rfl
     case r2B=>rfl
     case r3B=>simp[Value.oneCell']
     intro g5 off5 c5 wa o8 gr8 or8;have HBG:Hid (T+1<=g5):=ħ (o8.blk_lt (g:=g5) rfl).1;have M8:=ħ (RowM.addS BlE.keeps M5.o E5.o rfl o8 gr8 or8);have S8:=ħ (S5.o.grownBy gr8 (fun e=>by have:=HBL.o _ e;omega));have X8:=ħ (X5.o.grownBy gr8 (fun e=>by have:=HBL.o _ e;have:=HTB.o;omega));have R8:=ħ (R5.o.grownBy gr8 (fun e=>by have:=HBL.o _ e;have:=HTB.o;omega));have B8:=ħ (B5.o.trans ((Zef M5.o.own gr8 HVL.o).mono (by have:=HTB.o;omega)));clear o8 gr8 or8 S5 X5 R5 M5 B5 E5 HV;have t3:=S8.o.cell 3 _ rfl;have tf:=S8.o.warm 3;have on:=(Only.refl wa (· = T)).setCell (a:=⟨T,3,none⟩) (.slice (some ⟨g5,off5,none⟩) (ix+1) c5) rfl;have S9:=ħ (S8.o.set 3 (.slice (some ⟨g5,off5,none⟩) (ix+1) c5));have M9:=ħ (RowM.turn BlE.keeps M8.o on (fun g hg=>.inl (.inl hg)) (fun g hg e=>by have:=HBG.o;have h:g5=g:=đa hg;omega));have X9:=ħ (X8.o.only on (fun e=>by have:=HTB.o;omega));have R9:=ħ (R8.o.only on (fun e=>by have:=HTB.o;omega));have B9:=ħ (Only.later B8.o on (fun g hg=>by have:=HTB.o;omega));clear on S8 M8 X8 R8 B8
     go_wp2_with fail
     refine Zaa (Zas (Zab rfl ?_))
     go_wp2_with fail
     refine Zaa (Zas (Zab rfl ?_))
     go_wp2_with fail
     refine Zaa (Zbm ?_);clear t3 tf;generalize wa.setCell ⟨T,3,none⟩ (.slice (some ⟨g5,off5,none⟩) (ix+1) c5)=wz at *
     go_wp2_with fail
     go_roundw
     case rel=>exact⟨ix+1,some ⟨g5,off5,none⟩,c5,vss++[[.slice bo mn bc]],by go_num,by omega,S9,ħ (by rw[HFN.o];exact M9.o),X9,R9,B9⟩
     case measure=>simp only[intOf];omega
  ·have ii:¬ (ix:Int)<cn:=by omega
   obtain rfl:cn=ix:=by omega
   go_upto_region 10 with(fail)
   clear c3
   go_wp2_with (first | (refine wpList_load_row rfl 137 (.tmp 7) rfl (T) ?xt 137 #[.slice qo qn qc,.slice mo mn mc,.slice uo un uc,.slice co' cn kc] (0,0) _ S4.o Tryz.underlying137 rfl (Zdr _ _ _ _) ?_;(case xt=>rfl)) | (refine Zaq rfl 137 (.tmp 6) (.tmp 57) rfl (w.heap.size+1) #[.slice qo qn qc,.slice mo mn mc,.slice uo un uc,.slice co' cn kc] (by rfl) (by rfl) 137 _ R4.o (Zdr _ _ _ _) rfl (by simp[Value.oneCell']) ?_;intro w11 s9 u9;have S11:=ħ s9;have U11:=ħ u9;clear s9 u9))
   have HRF:Hid (Zqr w11 D FX co'):=ħ (by
    have h:=(M4.o.turn BlE.keeps (U11.o.only (p:=(· = w.heap.size+1)) rfl) (fun g hg=>.inl (.inr (.inl hg))) (fun g hg e=>by have:=(M4.o.own.blk_lt hg).1;have:=HTB.o;omega)).rowsD (D:=D) (fun g e=>.inr (.inr e)) (fun g e=>by have:=HDD.o g e;have:=HTB.o;omega)
    rwa [List.take_of_length_le (by rw[HFL.o];exact đd _)] at h)
   have B11:=ħ (U11.o.below B4.o (by omega));exact bodyPost_ret (results_cell_row (p:=6) (by kernel_rfl) _ _ (w.heap.size+1) 137 #[.slice qo qn qc,.slice mo mn mc,.slice uo un uc,.slice co' cn kc] (0,0) _ rfl S11.o Tryz.underlying137 rfl (Zdr _ _ _ _)) rfl (by refine⟨?_,B11.o⟩;exact⟨_,⟨_,rfl⟩,HRF.o⟩)
theorem Zub(w:World)(c:Crw)(C:List (List Bool))(ts:List Value)(h:Zt9 w c C ts)(hC:∀ r∈C,r.length=c.ms.length)(hcn:C.length<=1000)(hmn:c.ms.length<=1000)(u m:Nat)(hu:u<C.length)(hm:m<c.ms.length) :
  Calls Tryz.prog 115 #[.agg ts.toArray,.int .i64 (u:Nat),.int .i64 (m:Nat)] w fun e w'=>(∃ ts',e = .returned (.agg ts'.toArray)/\Zt9 w' c (Zcy c C u m) ts')/\Below w.heap.size w w':=by
 obtain⟨qo,qc,mo,mc,uo,uc,co,cc,rfl,hq0,hm0,hu0,hr0⟩:=h;refine(Zqs w c C qo mo uo co qc mc uc cc (fun _=>False) (fun g e=>e.elim) (hr0.rowsD (fun g _ e=>e)) hC hcn hmn u m hu hm).mono ?_;rintro e w' ⟨⟨co',cc',rfl,hr⟩,hb⟩;exact⟨⟨_,rfl,qo,qc,mo,mc,uo,uc,co',cc',by rw[Znd],hq0.below hb,hm0.below hb,hu0.below hb,hr.rowsB⟩,hb⟩
end
section
open Go.RowKit Go.Sort Go.Maps
theorem Zgl(n:Nat)(w:World):Calls Tryz.prog 189 #[.int .i64 (n:Nat)] w fun e w'=>e = .returned (.int .i64 ((min Zat n:Nat):Int))/\w=w':=by
 obtain⟨v,hv⟩:∃ v,min Zat n=v:=⟨_,rfl⟩;rw[hv]
 have eM:min (n:Int) 1152921504606846977=(v:Int):=by rw[<- hv];unfold Zat;omega
 clear hv
 go_enter Tryz.func189,Tryz.ntmps189
 go_wp2_with fail
 go_ret;exact⟨rfl,rfl⟩
theorem Zqt(a b:Nat)(w:World)(ha:a<=Zat)(hb:b<=Zat):Calls Tryz.prog 163 #[.int .i64 (a:Nat),.int .i64 (b:Nat)] w fun e w'=>e = .returned (.int .i64 ((min Zat (a*b):Nat):Int))/\w=w':=by
 obtain⟨v,hv⟩:∃ v,min Zat (a*b)=v:=⟨_,rfl⟩;rw[hv];have hm:Zat=1152921504606846977:=rfl;rw[hm] at ha hb;have HLI:=ħ (fun W=>Zgl (a*b) W);rw[hv] at HLI;have HV:=ħ hv;clear hv
 go_enter Tryz.func163,Tryz.ntmps163
 by_cases h0:a=0
 ·subst h0
  have q0:(((0:Nat):Int) != 0)=false:=rfl
  have e0:IntKind.i64.wrap (((0:Nat):Int)*(b:Int))=((0:Nat):Int):=by simp;rfl
  have hv0:v=0:=by rw[<- HV.o,Nat.zero_mul];rfl
  go_wp2_with fail
  refine(Zgl 0 w).mono ?_;rintro e wa ⟨rfl,rfl⟩
  go_wp2_with fail
  go_ret;exact⟨by rw[hv0];rfl,rfl⟩
 ·have q0:(((a:Nat):Int) != 0)=true:=by simpa using h0
  have z0:¬ ((a:Nat):Int)=0:=by omega
  obtain⟨d,hd⟩:∃ d,1152921504606846976/a=d:=⟨_,rfl⟩
  have q1:((1152921504606846976:Int)/((a:Nat):Int))=((d:Nat):Int):=by rw[<- hd];rfl
  have q2:Int.tdiv (1152921504606846976:Int) ((a:Nat):Int)=((d:Nat):Int):=by rw[<- hd];rfl
  have hdl:d<=1152921504606846976:=by rw[<- hd];exact Nat.div_le_self _ _
  have w2':IntKind.i64.wrap ((d:Nat):Int)=((d:Nat):Int):=đh _ (by omega);by_cases h1:(d:Int)<(b:Int)
  ·have HE:Hid (v=1152921504606846977):=ħ (by
    rw[<- HV.o,hm];refine Nat.min_eq_left ?_
    have h2:1152921504606846976<(d+1)*a:=by rw[<- hd];exact(Nat.div_lt_iff_lt_mul (by omega)).1 (by omega)
    have h3:(d+1)*a<=b*a:=Nat.mul_le_mul_right a (by omega)
    rw[Nat.mul_comm a b];omega)
   go_wp2_with fail
   go_ret;exact⟨by rw[HE.o];rfl,rfl⟩
  ·have h2:a*b<=1152921504606846976:=by
    have h3:d*a<=1152921504606846976:=by rw[<- hd];exact Nat.div_mul_le_self _ _
    have h4:b*a<=d*a:=Nat.mul_le_mul_right a (by omega);rw[Nat.mul_comm a b];omega
   have e0:IntKind.i64.wrap ((a:Int)*(b:Int))=((a*b:Nat):Int):=by rw[<- Int.natCast_mul];exact đh _ (by omega)
   go_wp2_with fail
   refine(HLI.o w).mono ?_;rintro e wa ⟨rfl,rfl⟩
   go_wp2_with fail
   go_ret;exact⟨rfl,rfl⟩
def Zfg(T:Tbl)(k u:Nat):List Nat:=((List.range T.U).drop u).filter (fun v=>T.win v==k)
theorem Zuc(T:Tbl)(k:Nat):Zfg T k 0=Zcu T k:=rfl
theorem Zme{n u:Nat}(h:u<n):(List.range n).drop u=u::(List.range n).drop (u+1):=by
 rw[List.drop_eq_getElem_cons (by rw[List.length_range];exact h),List.getElem_range]
theorem Zud{T:Tbl}{k u:Nat}(h:u<T.U)(hw:T.win u≠k):Zfg T k u=Zfg T k (u+1):=by
 unfold Zfg;rw[Zme h,List.filter_cons,if_neg (by simpa using hw)]
theorem Zue{T:Tbl}{k u:Nat}(h:u<T.U)(hw:T.win u=k):Zfg T k u=u::Zfg T k (u+1):=by
 unfold Zfg;rw[Zme h,List.filter_cons,if_pos (by simpa using hw)]
theorem Zyi{T:Tbl}{k u:Nat}(h:T.U<=u):Zfg T k u=[]:=by
 unfold Zfg;rw[List.drop_eq_nil_of_le (by rw[List.length_range];exact h)];rfl
def Zh2(T:Tbl)(k u:Nat)(L:List Nat):Nat:=min Zat (Zgc T.can T.M (Zfg T k u) (fun m=>L.getD m 0))
def Zke(T:Tbl)(k u:Nat)(L:List Nat)(m:Nat):Nat:=if T.can u m=true/\0<L.getD m 0 then Zgc T.can T.M (Zfg T k (u+1)) (fun j=>(L.set m (L.getD m 0-1)).getD j 0) else 0
theorem Zyj{T:Tbl}{k u:Nat}{L:List Nat}(h:Zfg T k u=[]):Zh2 T k u L=1:=by
 unfold Zh2;rw[h];rfl
theorem Zyk{T:Tbl}{k u v:Nat}{L:List Nat}(h:Zfg T k u=v::Zfg T k (v+1))(hL:L.length=T.M):Zh2 T k u L=min Zat ((List.range T.M).map (Zke T k v L)).sum:=by
 unfold Zh2;rw[h,Zi8]
 congr 1
 refine Zb7 _ (fun m hm=>?_);unfold Zke;have hm:=List.mem_range.1 hm;split
 ·refine Zdv _ _ _ (fun j hj=>?_)
  unfold Zpq;rw[đf (l:=L.set m _),List.getElem?_set];by_cases e:j=m
  ·subst e;rw[if_pos rfl,if_pos rfl,if_pos (by rw[hL];exact hm)];rfl
  ·rw[if_neg e,if_neg (fun h=>e h.symm),<- đf]
 ·rfl
theorem Zqu(M a b:Nat):min M (min M a+min M b)=min M (a+b):=by omega
theorem Zyl(L:List Nat)(m x:Nat):(L.map Int.ofNat).set m (x:Int)=(L.set m x).map Int.ofNat:=by rw[List.map_set];rfl
theorem Zmf (w:World) (c:Crw) (C:List (List Bool)) (hok:ReckOk c C) (ts:List Value) (ht:Zt9 w c C ts) (wd u:Nat) (L:List Nat) (lo:Option Addr) (n lc:Nat) (hwd:wd<=1000) (hu:u<=c.us.length) (hn:n=c.ms.length) (hL:L.length=c.ms.length) (hx:∀ x∈L,x<=1000000) (hl:Zan Zbg w lo (L.map Int.ofNat))
  (HIH:∀ k,u<=k->k<c.us.length->∀ (W:World),Below w.heap.size w W->∀ (L':List Nat) (lo':Option Addr) (lc':Nat),L'.length=c.ms.length->(∀ x∈L',x<=1000000)->Zan Zbg W lo' (L'.map Int.ofNat) ->
   Calls Tryz.prog 162 #[.agg ts.toArray,.int .i64 (wd:Nat),.int .i64 ((k:Int)+1),.slice lo' c.ms.length lc'] W fun e w'=>e = .returned (.int .i64 ((Zh2 (Za1 c C) wd (k+1) L':Nat):Int))/\Below W.heap.size W w') :
  Calls Tryz.prog 162 #[.agg ts.toArray,.int .i64 (wd:Nat),.int .i64 (u:Nat),.slice lo n lc] w fun e w'=>e = .returned (.int .i64 ((Zh2 (Za1 c C) wd u L:Nat):Int))/\Below w.heap.size w w':=by
 subst hn;obtain⟨qo,qc,mo,mc,uo,uc,co,cc,rfl,-,-,hu0,hr0⟩:=ht;have hmn:=hok.nm;have hun:=hok.nu;have HIH:=ħ HIH;have HUW:=ħ (fun W (hW:Below w.heap.size w W)=>hu0.below hW);have HRW:=ħ (fun W (hW:Below w.heap.size w W)=>hr0.below hW);have HLW:=ħ (fun W (hW:Below w.heap.size w W)=>hl.below hW);have HRL:=ħ hok.row;rw[hok.len] at HIH ⊢;have HCL:=ħ hok.len;have HUE:Hid ((Za1 c C).U=c.us.length):=ħ rfl;have HME:Hid ((Za1 c C).M=c.ms.length):=ħ rfl
 have HWN:Hid (∀ k x,c.us[k]?=some x->x.w=(((Za1 c C).win k:Nat):Int)):=ħ (fun k x hx=>by
  have h:=hok.win x (đe hx);show x.w=(((c.us.getD k ⟨0,0,0,0⟩).w.toNat:Nat):Int);rw[đf,hx];show x.w=((x.w.toNat:Nat):Int)
  omega)
 have HCN:Hid (∀ k m r,C[k]?=some r->m<r.length->r[m]?=some ((Za1 c C).can k m)):=ħ (fun k m r hr hm=>by
  show r[m]?=some ((C.getD k []).getD m false);rw[đf (l:=C),hr,đb hm];show _=some (r.getD m false)
  rw[đf,đb hm];rfl)
 clear hu0 hr0 hl hok;generalize Za1 c C=T at *;obtain⟨RES,hRES⟩:∃ r,Zh2 T wd u L=r:=⟨_,rfl⟩;have HE1:=ħ (fun h=>hRES.symm.trans (Zyj (T:=T) (k:=wd) (u:=u) (L:=L) h));have HE2:=ħ (fun v h=>hRES.symm.trans (Zyk (T:=T) (k:=wd) (u:=u) (v:=v) (L:=L) h (by rw[hL,HME.o])));rw[hRES];clear hRES;have HLL:=ħ hL;have HLX:=ħ hx;clear hx hL;generalize c.qs.length=qn at *;generalize hme:c.ms.length=mn at *;generalize hue:c.us.length=un at *;have HUL:=ħ hue;clear hme hue;have X1:Hid (Zae (w.alloc (.cells #[.slice qo qn qc,.slice mo mn mc,.slice uo un uc,.slice co un cc] 137)) w.heap.size 137 [.slice qo qn qc,.slice mo mn mc,.slice uo un uc,.slice co un cc]):=ħ (heap_alloc_new w _);have B1:=ħ ((đc w.heap.size w).alloc (đd _) (.cells #[.slice qo qn qc,.slice mo mn mc,.slice uo un uc,.slice co un cc] 137))
 go_enter Tryz.func162,Tryz.ntmps162
 go_upto_region 1 with(fail)
 generalize w.alloc (.cells #[.slice qo qn qc,.slice mo mn mc,.slice uo un uc,.slice co un cc] 137)=w1 at *
 go_loopw [2] (fun kv wr=>∃ (k:Nat),kv = .int .i64 k/\u<=k/\k<=un/\Hid (Zfg T wd u=Zfg T wd k)/\Hid (wr=w1)) (fun k _=>(un-intOf k).toNat)
 case atStart=>exact⟨u,rfl,by omega,by omega,ħ rfl,ħ rfl⟩
 case round =>
  obtain⟨k,rfl,hk0,hk,HG,HW⟩:=hrel;have hw:=HW.o;subst hw;clear HW;have c2:=X1.o.cell 2 _ rfl;have c3:=X1.o.cell 3 _ rfl;by_cases hkn:k<un
  ·have kk:(k:Int)<un:=by omega
   have e1:IntKind.i64.wrap ((un:Int)-1)=(un:Int)-1:=đh _ (by omega)
   have e2:min (k:Int) ((un:Int)-1)=(k:Int):=by omega
   have e3:IntKind.i64.wrap ((k:Int)+1)=(k:Int)+1:=đh _ (by omega);obtain⟨x,hux⟩:∃ x,c.us[k]?=some x:=⟨_,đb (by rw[HUL.o];exact hkn)⟩;obtain⟨gu,ou,huo,hg,hcu⟩:=(HUW.o _ B1.o).at Zbj k x hux;have p1:wr.cell? ⟨gu,ou+k*4+1,none⟩=some (.int .i64 x.w):=hcu 1 _ rfl;rw[HWN.o k x hux] at p1;clear hux hcu hg;obtain⟨wk,hwk⟩:∃ v,T.win k=v:=⟨_,rfl⟩;rw[hwk] at p1;have HWK:=ħ hwk;clear hwk;have HUO:=ħ huo;subst huo;by_cases hww:wk=wd
   ·subst hww
    have q0:(((wk:Nat):Int) != ((wk:Nat):Int))=false:=by simp
    have HE:=ħ (HE2.o k (by rw[HG.o];exact Zue (by rw[HUE.o];exact hkn) HWK.o));have HIK:=ħ (fun W (hW:Below w.heap.size w W) L' lo' lc' h1 h2 h3=>HIH.o k hk0 hkn W hW L' lo' lc' h1 h2 h3);obtain⟨row,hrow⟩:∃ r,C[k]?=some r:=⟨_,đb (by rw[HCL.o];exact hkn)⟩;have hrl:=HRL.o row (đe hrow);obtain⟨gc,oc,bo,bc,hco,hgc,hcell,hfl⟩:=(HRW.o _ B1.o).at k row hrow;rw[hrl] at hcell;have HRC:=ħ (fun W (hW:Below _ _ W)=>(hW.cell (p:=⟨gc,oc+k,none⟩) hgc).trans hcell);have HRF:=ħ (fun W (hW:Below _ _ W)=>hfl.below hW);have HRN:=ħ hrl;have HCK:=ħ (fun m hm=>HCN.o k m row hrow hm);subst hco;clear HE1 HE2 HIH HG HCN HRL HRW HWN HUW hcell hfl hrl hrow hgc
    have kk2:¬ (k:Int)≥(un:Int):=by omega
    go_upto_region 7 with(fail)
    clear p1 q0 c2 c3 e2 e1;generalize hw1:wr=wo at *;clear hw1
    go_loopw [9,10] (fun ov mv wr=>∃ (m a:Nat),ov = .int .i64 a/\mv = .int .i64 m/\m<=mn/\a<=1152921504606846977/\Hid (a=min Zat ((List.range m).map (Zke T wk k L)).sum)/\Hid (Below wo.heap.size wo wr)) (fun _ m _=>(mn-intOf m).toNat)
    case atStart=>exact⟨0,0,rfl,rfl,by omega,by omega,ħ (by simp),ħ (đc _ _)⟩
    case round =>
     obtain⟨m,a,rfl,rfl,hm,ha,HA,BR⟩:=hrel;have e4:IntKind.i64.wrap ((m:Int)+1)=((m+1:Nat):Int):=đh _ (by omega);by_cases hmn:m<mn
     ·have mm:(m:Int)<mn:=by omega
      have c3:=(X1.o.step BR.o).cell 3 _ rfl;have y0:=HRC.o wr BR.o;obtain⟨g2,o2,hbo,hg2,hcc⟩:=(HRF.o wr BR.o).at Zg5 m _ (HCK.o m (by rw[HRN.o];exact hmn));have y1:=hcc 0 _ rfl;rw[Nat.mul_one,Nat.add_zero] at y1;obtain⟨cb,hcb⟩:∃ b,T.can k m=b:=⟨_,rfl⟩;rw[hcb] at y1;have HBO:=ħ hbo;subst hbo;have BW:=ħ (B1.o.trans (BR.o.mono B1.o.size));obtain⟨x,hxl⟩:∃ x,L[m]?=some x:=⟨_,đb (by rw[HLL.o];exact hmn)⟩;have hxb:=HLX.o x (đe hxl)
      have hgd:L.getD m 0=x:=by rw[đf,hxl];rfl
      obtain⟨g3,o3,hlo,hg3,hc3⟩:=(HLW.o wr BW.o).at Zaz m (x:Int) (by rw[đj,hxl];rfl);have y2:=hc3 0 _ rfl;rw[Nat.mul_one,Nat.add_zero] at y2;have HLO:=ħ hlo;have HSU:Hid (min Zat ((List.range (m+1)).map (Zke T wk k L)).sum=min Zat (a+min Zat (Zke T wk k L m))):=ħ (by rw[HA.o,Zb3,Zqu]);have HTM:Hid (Zke T wk k L m=if cb=true/\0<x then Zgc T.can T.M (Zfg T wk (k+1)) (fun j=>(L.set m (x-1)).getD j 0) else 0):=ħ (by unfold Zke;rw[hcb,hgd]);clear hcc hcb hg2 hc3 hg3 hgd HA;by_cases hgo:cb=true/\0<x
      ·obtain⟨hc1,hx0⟩:=hgo
       subst hc1
       have q3:¬ (x:Int)<1:=by omega
       have HTM2:Hid (min Zat (Zke T wk k L m)=Zh2 T wk (k+1) (L.set m (x-1))):=ħ (by rw[HTM.o,if_pos ⟨rfl,hx0⟩];rfl);clear HTM
       have HNX:Hid (∀ y∈L.set m (x-1),y<=1000000):=ħ (fun y hy=>by
        rcases List.mem_or_eq_of_mem_set hy with h | h
        ·exact HLX.o y h
        ·omega)
       have HNL:Hid ((L.set m (x-1)).length=mn):=ħ (by rw[List.length_set];exact HLL.o);have OE:=ħ (OwnK.made wr 3 1);have BE:=ħ ((đc wr.heap.size wr).alloc (đd _) (.cells #[] 3));have FE:=ħ (HLW.o _ (BW.o.trans (BE.o.mono BW.o.size)));have HNM:Hid (mn=(L.map Int.ofNat).length):=ħ (by rw[đr];exact HLL.o.symm);subst hlo
       go_upto_region 10 with(fail)
       clear c3 y0 y1 y2 q3
       go_upto_region 11 with(at_builtin;go_loud (refine Z3r Zbg 33 3 (.int .i64 0) 1 8 Tryz.underlying33 Zbl rfl (by omega) (by omega) Zaz Z07 (wr.alloc (.cells #[] 3)) wr.heap.size rfl (.tmp 62) (.tmp 63) rfl ⟨wr.heap.size,0,none⟩ 0 ?q1 OE.o BE.o.size (some ⟨g3,o3,none⟩) mn lc (L.map Int.ofNat) ?q2 HNM.o FE.o (by omega) ?_);(case q1=>rfl);(case q2=>rfl);intro g5 off5 c5 wq o8 b8;have O8:=ħ o8;have B8:=ħ (BE.o.trans b8);have F8:=ħ (O8.o.intAt (show(L.map Int.ofNat)[m]?=some (x:Int) by rw[đj,hxl];rfl));clear o8 b8)
       clear OE BE FE;have y3:=F8.o.1;have yf:=F8.o.2.1;have e5:IntKind.i64.wrap ((x:Int)-1)=((x-1:Nat):Int):=(đh _ (by omega)).trans (by omega);have O9:=ħ (O8.o.intSet (show m<(L.map Int.ofNat).length by rw[<- HNM.o];exact hmn) ((x-1:Nat):Int));rw[Zyl] at O9;have B9:=ħ (B8.o.setCell (p:=⟨g5,off5+m,none⟩) F8.o.2.2 (.int .i64 ((x-1:Nat):Int)))
       go_upto_region 12 with(fail)
       clear y3 yf e5 O8 B8 F8;generalize wq.setCell ⟨g5,off5+m,none⟩ (.int .i64 ((x-1:Nat):Int))=w9 at *;have A9:=ħ (BR.o.trans (B9.o.mono BR.o.size));have D9:=ħ (B1.o.trans (A9.o.mono B1.o.size));have X9:=ħ (X1.o.step A9.o);have HC:=ħ (HIK.o w9 D9.o (L.set m (x-1)) (some ⟨g5,off5,none⟩) c5 HNL.o HNX.o (O9.o.flatR Zaz (by rw[đr,HNL.o])));obtain⟨rv,hrv⟩:∃ r,Zh2 T wk (k+1) (L.set m (x-1))=r:=⟨_,rfl⟩
       have hrb:rv<=1152921504606846977:=by rw[<- hrv];unfold Zh2 Zat;omega
       rw[hrv] at HC HTM2;clear hrv O9 B9
       go_wp2_with (refine wpList_load_row rfl 137 (.tmp 4) rfl (w.heap.size) ?xt 137 #[.slice qo qn qc,.slice mo mn mc,.slice (some ⟨gu,ou,none⟩) un uc,.slice (some ⟨gc,oc,none⟩) un cc] (0,0) _ X9.o Tryz.underlying137 rfl (Zdr _ _ _ _) ?_;(case xt=>rfl))
       refine HC.o.mono ?_;rintro e w10 ⟨rfl,b10⟩;have A10:=ħ (A9.o.trans (b10.mono A9.o.size));clear b10 A9 D9 X9 HC;have e6:IntKind.i64.wrap ((a:Int)+(rv:Int))=((a+rv:Nat):Int):=đh _ (by omega)
       go_wp2_with fail
       refine(Zgl (a+rv) w10).mono ?_;rintro e w11 ⟨rfl,rfl⟩;have HSN:Hid (min Zat (a+rv)=min Zat ((List.range (m+1)).map (Zke T wk k L)).sum):=ħ (by rw[HSU.o,HTM2.o])
       have hab:min Zat (a+rv)<=1152921504606846977:=by unfold Zat;omega
       generalize min Zat (a+rv)=an at *
       go_wp2_with fail
       go_roundw
       case rel=>exact⟨m+1,an,rfl,by go_num,by omega,hab,HSN,A10⟩
       case measure=>simp only[intOf];omega
      ·have HTM:Hid (Zke T wk k L m=0):=ħ (by rw[HTM.o,if_neg hgo])
       have HSN:Hid (a=min Zat ((List.range (m+1)).map (Zke T wk k L)).sum):=ħ (by rw[HSU.o,HTM.o];unfold Zat;omega);subst hlo
       cases cb with
       | false =>
        go_wp2_with fail
        go_roundw
        case rel=>exact⟨m+1,a,rfl,by go_num,by omega,ha,HSN,BR⟩
        case measure=>simp only[intOf];omega
       | true =>
        have q3:(x:Int)<1:=by
         have:¬ 0<x:=fun h=>hgo ⟨rfl,h⟩
         omega
        go_wp2_with fail
        go_roundw
        case rel=>exact⟨m+1,a,rfl,by go_num,by omega,ha,HSN,BR⟩
        case measure=>simp only[intOf];omega
     ·have mm:¬ (m:Int)<mn:=by omega
      obtain rfl:mn=m:=by omega
      go_wp2_with fail
      go_ret;exact⟨by rw[HE.o,HA.o,HME.o];rfl,B1.o.trans (BR.o.mono B1.o.size)⟩
   ·have q0:(((wk:Nat):Int) != ((wd:Nat):Int))=true:=by simp;omega
    have HGN:Hid (Zfg T wd u=Zfg T wd (k+1)):=ħ (by rw[HG.o];exact Zud (by rw[HUE.o];exact hkn) (by rw[HWK.o];exact hww))
    go_wp2_with fail
    go_roundw
    case rel=>exact⟨k+1,by go_num,by omega,by omega,HGN,ħ trivial⟩
    case measure=>simp only[intOf];omega
  ·have kk:¬ (k:Int)<un:=by omega
   have kk2:(k:Int)≥(un:Int):=by omega
   have HE:=ħ (HE1.o (by rw[HG.o];exact Zyi (by rw[HUE.o];omega)))
   go_wp2_with fail
   go_ret;exact⟨by rw[HE.o];rfl,B1.o⟩
theorem Zph(c:Crw)(C:List (List Bool))(hok:ReckOk c C)(wd:Nat)(hwd:wd<=1000):∀ (N:Nat) (w:World) (ts:List Value) (u:Nat) (L:List Nat) (lo:Option Addr) (lc:Nat),Zt9 w c C ts->c.us.length-u<=N->u<=c.us.length->L.length=c.ms.length->(∀ x∈L,x<=1000000)->Zan Zbg w lo (L.map Int.ofNat) ->
  Calls Tryz.prog 162 #[.agg ts.toArray,.int .i64 (wd:Nat),.int .i64 (u:Nat),.slice lo c.ms.length lc] w fun e w'=>e = .returned (.int .i64 ((Zh2 (Za1 c C) wd u L:Nat):Int))/\Below w.heap.size w w'
 | 0,w,ts,u,L,lo,lc,ht,hN,hu,hL,hx,hl=>Zmf w c C hok ts ht wd u L lo _ lc hwd hu rfl hL hx hl (fun k h1 h2=>by omega)
 | N+1,w,ts,u,L,lo,lc,ht,hN,hu,hL,hx,hl=>Zmf w c C hok ts ht wd u L lo _ lc hwd hu rfl hL hx hl (fun k h1 h2 W hW L' lo' lc' e1 e2 e3=>by
  have:=Zph c C hok wd hwd N W ts (k+1) L' lo' lc' (ht.below hW) (by omega) (by omega) e1 e2 e3
  exact this)
end
section
open Go.RowKit Go.Sort Go.Maps
theorem Zpi{c:Crw}{C:List (List Bool)}(hok:ReckOk c C){j:Nat}{m:Mem}(h:c.ms[j]?=some m)(k:Nat):Zcd m.t k=(((Za1 c C).cap j k:Nat):Int)/\(Za1 c C).cap j k<=4096/\m.t.length<=1000:=by
 have h1:=hok.tic m (đe h)
 have h0:0<=Zcd m.t k/\Zcd m.t k<=4096:=by
  unfold Zcd;rw[đf]
  cases hx:m.t[k]? with
  | none=>exact⟨Int.le_refl 0,by decide⟩
  | some x=>exact h1.1 x (đe hx)
 have e:(Za1 c C).cap j k=(Zcd m.t k).toNat:=by
  show(Zcd (c.ms.getD j ⟨[],[],0⟩).t k).toNat=_;rw[đf,h];rfl
 rw[e];omega
theorem Zym(T:Tbl)(k:Nat):Zh2 T k 0 (Zcx T.M (fun m=>T.cap m k))=Zij T (Zcu T k) k:=by
 rw[Zu4];unfold Zh2;rw[Zuc]
 congr 1
 refine Zdv _ _ _ (fun m hm=>?_);rw[đf,Ze6 _ hm];rfl
theorem cntTo_le'(T:Tbl):∀ k x,cntTo' T k=some x->x<=Zat
 | 0,x,h=>by
  have:x=1:=(đa h).symm;rw[this];decide
 | k+1,x,h=>by
  unfold cntTo' at h
  split at h
  ·cases h
  ·split at h
   ·cases h
   ·rw[<- đa h];exact Nat.min_le_left _ _
theorem Zyn{M:Nat}(f:Nat->Nat){j:Nat}(hj:j<M):Za0 ((Zcx M f).take j)++[Value.int .i64 ((f j:Nat):Int)]=Za0 ((Zcx M f).take (j+1)):=by
 rw[Zkd (Ze6 f hj)];exact Zbt _ _
theorem Zmg(w:World)(c:Crw)(C:List (List Bool))(hok:ReckOk c C)(ts:List Value)(ht:Zt9 w c C ts) :
  Calls Tryz.prog 111 #[.agg ts.toArray] w fun e w'=>e = .returned (.int .i64 ((Zgv (Za1 c C):Nat):Int))/\Below w.heap.size w w':=by
 have HWY:=ħ (fun k (hk:k<16) W lo lc (hW:Below w.heap.size w W) (hl:Zan Zbg W lo ((Zcx (Za1 c C).M (fun m=>(Za1 c C).cap m k)).map Int.ofNat))=>Zph c C hok k (by omega) c.us.length W ts 0 (Zcx (Za1 c C).M (fun m=>(Za1 c C).cap m k)) lo lc (ht.below hW) (by omega) (by omega) (Zdt _ _) (fun x hx=>by
  unfold Zcx at hx;obtain⟨j,hj,rfl⟩:=List.mem_map.1 hx;have hj:j<c.ms.length:=List.mem_range.1 hj;have:=(Zpi hok (đb hj) k).2.1
  omega) hl)
 have HTC:=ħ (fun j m (h:c.ms[j]?=some m) k=>Zpi hok h k);have HWE:=ħ (fun k=>Zym (Za1 c C) k);have HMM:Hid ((Za1 c C).M=c.ms.length):=ħ rfl;obtain⟨qo,qc,mo,mc,uo,uc,co,cc,rfl,-,hm0,-,-⟩:=ht;have HMW:=ħ (fun W (hW:Below w.heap.size w W)=>hm0.below hW);have hmn:=hok.nm;clear hm0 hok;generalize Za1 c C=T at *;rw[HMM.o] at HWY HWE;have HLE:=ħ (cntTo_le' T)
 have HZ:Hid (∀ k,k<16->cntTo' T (k+1)=none->Zgv T=0):=ħ (fun k hk h=>by
  unfold Zgv;obtain⟨d,hd⟩:∃ d,16=k+1+d:=⟨15-k,by omega⟩
  rw[hd,Zh0 h d];rfl)
 have HF:Hid (∀ x,cntTo' T 16=some x->Zgv T=x):=ħ (fun x h=>by unfold Zgv;rw[h];rfl)
 have HNX:Hid (∀ k x,cntTo' T k=some x->cntTo' T (k+1)=if Zij T (Zcu T k) k=0 then none else some (min Zat (x*Zij T (Zcu T k) k))):=ħ (fun k x h=>by
  show(match cntTo' T k with | none=>none | some x=>_)=_
  rw[h])
 have HWL:Hid (∀ k,Zij T (Zcu T k) k<=Zat):=ħ (fun k=>Zxk _ _ _);generalize C.length=cn at *;generalize c.qs.length=qn at *;generalize c.us.length=un at *;generalize hme:c.ms.length=mn at *;have HME:=ħ hme;clear hme;generalize Zgv T=RES at *;have X1:Hid (Zae (w.alloc (.cells #[.slice qo qn qc,.slice mo mn mc,.slice uo un uc,.slice co cn cc] 137)) w.heap.size 137 [.slice qo qn qc,.slice mo mn mc,.slice uo un uc,.slice co cn cc]):=ħ (heap_alloc_new w _);have B1:=ħ ((đc w.heap.size w).alloc (đd _) (.cells #[.slice qo qn qc,.slice mo mn mc,.slice uo un uc,.slice co cn cc] 137))
 go_enter Tryz.func111,Tryz.ntmps111
 go_upto_region 3 with(fail)
 generalize w.alloc (.cells #[.slice qo qn qc,.slice mo mn mc,.slice uo un uc,.slice co cn cc] 137)=w1 at *
 go_loopw [3,4] (fun ov kv wr=>∃ (k x:Nat),kv = .int .i64 k/\ov = .int .i64 x/\k<=16/\Hid (cntTo' T k=some x)/\Hid (Below w.heap.size w wr)/\Hid (Zae wr w.heap.size 137 [.slice qo qn qc,.slice mo mn mc,.slice uo un uc,.slice co cn cc])) (fun _ k _=>(16-intOf k).toNat)
 case atStart=>exact⟨0,1,rfl,rfl,by omega,ħ rfl,B1,X1⟩
 case round =>
  clear B1 X1;obtain⟨k,x,rfl,rfl,hk,HK,B2,X2⟩:=hrel;have e2:IntKind.i64.wrap ((k:Int)+1)=((k+1:Nat):Int):=đh _ (by omega);by_cases hk16:k<16
  ·have kk:(k:Int)<16:=by omega
   obtain⟨F,hF⟩:∃ f:Nat->Nat,(fun m=>T.cap m k)=f:=⟨_,rfl⟩;have HWK:=ħ (fun W lo lc hW hl=>HWY.o k hk16 W lo lc hW hl);have HWE:=ħ (HWE.o k)
   have HTC:Hid (∀ j m,c.ms[j]?=some m->Zcd m.t k=((F j:Nat):Int)/\m.t.length<=1000):=ħ (fun j m h=>by
    have:=HTC.o j m h k
    rw[<- hF];exact⟨this.1,this.2.2⟩)
   rw[hF] at HWK HWE;clear hF;rw[HWE.o] at HWK;have HNK:=ħ (HNX.o k x HK.o);have hwl:=HWL.o k;have HZK:=ħ (HZ.o k hk16);clear HWE;generalize Zij T (Zcu T k) k=wy at *;have bx:=(đc wr.heap.size wr).alloc (đd _) (.cells #[] 3);have O5:=ħ (OwnK.made wr 3 1);have W5:=ħ bx;have X5:=ħ (X2.o.step bx);have B5:=ħ (B2.o.trans (bx.mono B2.o.size));have HSZ:=ħ X2.o.lt;clear bx
   go_upto_region 7 with(fail)
   generalize wr.alloc (.cells #[] 3)=w5 at *;generalize wr=wo at *
   go_loopw [5,6] (fun lv jv wr=>∃ (j:Nat) (lo:Option Addr) (lc:Nat),jv = .int .i64 j/\j<=mn/\lv = .slice lo j lc/\Hid (OwnK wr wo.heap.size 1 j lc (Za0 ((Zcx mn F).take j)) lo)/\Hid (Below wo.heap.size wo wr)/\Hid (Below w.heap.size w wr)/\Hid (Zae wr w.heap.size 137 [.slice qo qn qc,.slice mo mn mc,.slice uo un uc,.slice co cn cc])) (fun _ j _=>(mn-intOf j).toNat)
   case atStart=>exact⟨0,_,0,rfl,by omega,rfl,ħ (by simpa [Za0] using O5.o),W5,B5,X5⟩
   case round =>
    clear O5 W5 X5 B5;obtain⟨j,lo,lc,rfl,hj,rfl,O6,W6,B6,X6⟩:=hrel;have e3:IntKind.i64.wrap ((j:Int)+1)=((j+1:Nat):Int):=đh _ (by omega);have c1:=X6.o.cell 1 _ rfl;by_cases hjm:j<mn
    ·have jj:(j:Int)<mn:=by omega
     obtain⟨m,hm⟩:∃ m,c.ms[j]?=some m:=⟨_,đb (by rw[HME.o];exact hjm)⟩;obtain⟨hme,hml⟩:=HTC.o j m hm;obtain⟨gm,om,cs,hmo,hgm,hmc,hrd⟩:=(HMW.o wr B6.o).at j m hm;have HTK:=ħ (fun W (hW:Below wr.heap.size wr W)=>Zpg W m cs (hmc.below hW) k (by omega) (by omega));rw[hme] at HTK;have HRK:=ħ (Zyn F hjm);obtain⟨bo,bc,to',tc,rfl,-,-⟩:=hmc;have p0:wr.cell? ⟨gm,om+j*3,none⟩=some (.slice bo m.b.length bc):=hrd 0 _ rfl;have p1:wr.cell? ⟨gm,om+j*3+1,none⟩=some (.slice to' m.t.length tc):=hrd 1 _ rfl;have p2:wr.cell? ⟨gm,om+j*3+2,none⟩=some (.int .i64 m.r):=hrd 2 _ rfl;generalize m.b.length=nb at *;generalize m.t.length=nt at *;generalize m.r=mr at *;clear hm hrd hgm hme;subst hmo;generalize F j=tk at *;generalize hpr:Za0 ((Zcx mn F).take j)=pr at *;clear hpr
     go_wp2_with fail
     refine(HTK.o wr (đc _ _)).mono ?_;rintro e w7 ⟨rfl,b7⟩;have O7:=ħ (O6.o.below b7);have W7:=ħ (W6.o.trans (b7.mono W6.o.size));have B7:=ħ (B6.o.trans (b7.mono B6.o.size));have X7:=ħ (X6.o.step b7);clear b7 p0 p1 p2 c1 O6 W6 B6 X6 HTK
     go_wp2_with (at_builtin;go_loud (refine Zcn 33 3 (.int .i64 0) 1 8 Tryz.underlying33 Zbl rfl (by omega) (by omega) w7 wo.heap.size rfl (.tmp 21) (.tmp 30) rfl lo lc j pr ?q1 O7.o W7.o.size 1 1 #[.int .i64 (tk:Int)] 3 ?q2 rfl (by omega) ?q3 ?q4 ?_);(case q1=>rfl);(case q2=>rfl);(case q3=>simp[Value.oneCell']);(case q4=>omega);intro g5 off5 c5 wa o8 gr8 b8 or8;have O9:=ħ o8;have X9:=ħ (X7.o.grownBy gr8 (fun e=>by have h:=(O7.o.blk_lt e).1;have:=HSZ.o;omega));have W9:=ħ (W7.o.trans b8);have B9:=ħ (B7.o.trans (b8.mono B2.o.size));clear o8 gr8 b8 or8)
     go_roundw
     case rel=>exact⟨j+1,some ⟨g5,off5,none⟩,c5,by go_num,by omega,rfl,ħ (by rw[<- HRK.o];exact O9.o),W9,B9,X9⟩
     case measure=>simp only[intOf];omega
    ·have jj:¬ (j:Int)<mn:=by omega
     obtain rfl:mn=j:=by omega
     have HFL:=ħ (Zcm (l:=Zcx mn F) (by have:=O6.o;rwa [List.take_of_length_le (by rw[Zdt];exact đd _)] at this) (Zdt _ _).symm);clear O6
     go_upto_region 10 with(fail)
     clear c1
     go_wp2_with (refine wpList_load_row rfl 137 (.tmp 1) rfl (w.heap.size) ?xt 137 #[.slice qo qn qc,.slice mo mn mc,.slice uo un uc,.slice co cn cc] (0,0) _ X6.o Tryz.underlying137 rfl (Zdr _ _ _ _) ?_;(case xt=>rfl))
     refine(HWK.o wr lo lc B6.o HFL.o).mono ?_;rintro e w7 ⟨rfl,b7⟩;have B7:=ħ (B6.o.trans (b7.mono B6.o.size));have X7:=ħ (X6.o.step b7);clear b7 B6 X6 HWK HFL;by_cases hy:wy=0
     ·have q0:(((wy:Nat):Int)==0)=true:=by simpa using hy
      have HE:=ħ (HZK.o (by rw[HNK.o,if_pos hy]))
      go_wp2_with fail
      go_ret;exact⟨by rw[HE.o];rfl,B7.o⟩
     ·have q0:(((wy:Nat):Int)==0)=false:=by simpa using hy
      have HN:=ħ (HNK.o.trans (if_neg hy))
      go_wp2_with fail
      refine(Zqt x wy w7 (HLE.o k x HK.o) hwl).mono ?_;rintro e w8 ⟨rfl,rfl⟩;generalize min Zat (x*wy)=xn at *
      go_wp2_with fail
      go_roundw
      case rel=>exact⟨k+1,xn,by go_num,rfl,by omega,HN,B7,X7⟩
      case measure=>simp only[intOf];omega
  ·have kk:¬ (k:Int)<16:=by omega
   obtain rfl:k=16:=by omega
   have HE:=ħ (HF.o x HK.o)
   go_wp2_with fail
   go_ret;exact⟨by rw[HE.o];rfl,B2.o⟩
theorem Zuf(w:World)(c:Crw)(cs:List Value)(hc:Zhs w c cs)(hn:c.us.length<=1000)(wd:Int) :
  Calls Tryz.prog 107 #[.agg cs.toArray,.int .i64 wd] w fun e w'=>(∃ o cap,e = .returned (.slice o (Zgp c wd).length cap)/\OwnK w' w.heap.size 1 (Zgp c wd).length cap (Za0 (Zgp c wd)) o)/\Below w.heap.size w w':=by
 obtain⟨qo,qc,mo,mc,uo,uc,rfl,-,hu0⟩:=Zd7 hc;have HUW:=ħ (fun W (hW:Below w.heap.size w W)=>hu0.below hW);clear hc hu0
 have HGD:Hid (∀ i x,c.us[i]?=some x->((List.range (i+1)).filter (Zhy c wd))=((List.range i).filter (Zhy c wd))++(if x.w=wd then [i] else [])):=ħ (fun i x h=>by
  rw[List.range_succ,List.filter_append]
  congr 1
  rw[List.filter_cons,List.filter_nil]
  have e:Zhy c wd i=decide (x.w=wd):=by
   unfold Zhy;rw[đf,h];show(x.w==wd)=_;rw[Bool.eq_iff_iff];simp
  rw[e];by_cases hx:x.w=wd
  ·rw[if_pos hx,if_pos (by simpa using hx)]
  ·rw[if_neg hx,if_neg (by simpa using hx)])
 have HGL:Hid (∀ i,((List.range i).filter (Zhy c wd)).length<=i):=ħ (fun i=>by have:=List.length_filter_le (Zhy c wd) (List.range i);rwa [List.length_range] at this);have HGE:Hid ((List.range c.us.length).filter (Zhy c wd)=Zgp c wd):=ħ rfl;obtain⟨G,hG⟩:∃ g:Nat->List Nat,(fun i=>(List.range i).filter (Zhy c wd))=g:=⟨_,rfl⟩;have HG0:Hid (G 0=[]):=ħ (by rw[<- hG];rfl);have HGD:Hid (∀ i x,c.us[i]?=some x->G (i+1)=G i++(if x.w=wd then [i] else [])):=ħ (by rw[<- hG];exact HGD.o);have HGL:Hid (∀ i,(G i).length<=i):=ħ (by rw[<- hG];exact HGL.o);have HGE:Hid (G c.us.length=Zgp c wd):=ħ (by rw[<- hG];exact HGE.o);clear hG;generalize Zgp c wd=RES at *;generalize c.qs.length=qn at *;generalize c.ms.length=mn at *;generalize hue:c.us.length=un at *;have HUE:=ħ hue;clear hue;have X1:Hid (Zae (w.alloc (.cells #[.slice qo qn qc,.slice mo mn mc,.slice uo un uc] 26)) w.heap.size 26 [.slice qo qn qc,.slice mo mn mc,.slice uo un uc]):=ħ (heap_alloc_new w _);have b1:=((đc w.heap.size w).alloc (đd _) (.cells #[.slice qo qn qc,.slice mo mn mc,.slice uo un uc] 26));have bx:=b1.alloc b1.size (.cells #[] 3);have X5:=ħ (X1.o.step ((đc _ _).alloc (đd _) (.cells #[] 3)))
 have O5:Hid (OwnK ((w.alloc (.cells #[.slice qo qn qc,.slice mo mn mc,.slice uo un uc] 26)).alloc (.cells #[] 3)) (w.heap.size+1) 1 0 0 [] (some ⟨w.heap.size+1,0,none⟩)):=ħ (by
  have h:=OwnK.made (w.alloc (.cells #[.slice qo qn qc,.slice mo mn mc,.slice uo un uc] 26)) 3 1;rw[đl] at h
  exact h)
 have B5:=ħ bx;have HS5:Hid (w.heap.size+1<=((w.alloc (.cells #[.slice qo qn qc,.slice mo mn mc,.slice uo un uc] 26)).alloc (.cells #[] 3)).heap.size):=ħ (by rw[đl,đl];omega);clear b1 bx X1
 go_enter Tryz.func107,Tryz.ntmps107
 go_upto_region 3 with(fail)
 generalize (w.alloc (.cells #[.slice qo qn qc,.slice mo mn mc,.slice uo un uc] 26)).alloc (.cells #[] 3)=w5 at *
 go_loopw [5,6] (fun lv jv wr=>∃ (i n:Nat) (lo:Option Addr) (lc:Nat),jv = .int .i64 i/\i<=un/\lv = .slice lo n lc/\Hid (n=(G i).length)/\Hid (OwnK wr (w.heap.size+1) 1 n lc (Za0 (G i)) lo)/\Hid (Below w.heap.size w wr)/\Hid (Zae wr w.heap.size 26 [.slice qo qn qc,.slice mo mn mc,.slice uo un uc])/\Hid (w.heap.size+1<=wr.heap.size)) (fun _ j _=>(un-intOf j).toNat)
 case atStart=>exact⟨0,0,_,0,rfl,by omega,rfl,ħ (by rw[HG0.o];rfl),ħ (by rw[HG0.o];simpa [Za0] using O5.o),B5,X5,HS5⟩
 case round =>
  clear O5 B5 X5 HS5;obtain⟨i,n,lo,lc,rfl,hi,rfl,HN,O6,B6,X6,S6⟩:=hrel;have e3:IntKind.i64.wrap ((i:Int)+1)=((i+1:Nat):Int):=đh _ (by omega);have c2:=X6.o.cell 2 _ rfl;by_cases hin:i<un
  ·have ii:(i:Int)<un:=by omega
   obtain⟨x,hx⟩:∃ x,c.us[i]?=some x:=⟨_,đb (by rw[HUE.o];exact hin)⟩;have HGN:=ħ (HGD.o i x hx)
   have hnl:n<=i:=by rw[HN.o];exact HGL.o i
   obtain⟨gu,ou,huo,hgu,hcu⟩:=(HUW.o wr B6.o).at Zbj i x hx;have p1:wr.cell? ⟨gu,ou+i*4+1,none⟩=some (.int .i64 x.w):=hcu 1 _ rfl;have HUO:=ħ huo;clear hx hcu hgu;subst huo;generalize x.w=xw at *;by_cases hw:xw=wd
   ·subst hw
    have q0:(xw==xw)=true:=by simp
    have HGN:Hid (G (i+1)=G i++[i]):=ħ (by rw[HGN.o,if_pos rfl]);have HCV:Hid (Za0 (G i)++[.int .i64 (i:Int)]=Za0 (G (i+1))):=ħ (by rw[HGN.o];exact Zbt _ _);have HLN:Hid (n+1=(G (i+1)).length):=ħ (by rw[HGN.o,đn,<- HN.o];rfl);obtain⟨pr,hpr⟩:∃ l,Za0 (G i)=l:=⟨_,rfl⟩;rw[hpr] at O6 HCV;clear hpr
    go_wp2_with (at_builtin;refine Zcn 33 3 (.int .i64 0) 1 8 Tryz.underlying33 Zbl rfl (by omega) (by omega) wr (w.heap.size+1) rfl (.tmp 23) (.tmp 25) rfl lo lc n pr ?q1 O6.o S6.o 1 1 #[.int .i64 (i:Int)] 3 ?q2 rfl (by omega) ?q3 ?q4 ?_;(case q1=>rfl);(case q2=>rfl);(case q3=>simp[Value.oneCell']);(case q4=>omega);intro g5 off5 c5 wa o8 gr8 b8 or8;have O9:=ħ o8;have X9:=ħ (X6.o.grownBy gr8 (fun e=>by have h:=(O6.o.blk_lt e).1;omega));have S9:Hid (w.heap.size+1<=wa.heap.size):=ħ (đo S6.o b8.size);have B9:=ħ (B6.o.trans (b8.mono (by omega)));clear o8 gr8 b8 or8)
    go_roundw
    case rel=>exact⟨i+1,n+1,some ⟨g5,off5,none⟩,c5,by go_num,by omega,rfl,HLN,ħ (by rw[<- HCV.o];exact O9.o),B9,X9,S9⟩
    case measure=>simp only[intOf];omega
   ·have q0:(xw==wd)=false:=by simpa using hw
    have HGN:Hid (G (i+1)=G i):=ħ (by rw[HGN.o,if_neg hw,List.append_nil])
    go_wp2_with fail
    go_roundw
    case rel=>exact⟨i+1,n,lo,lc,by go_num,by omega,rfl,ħ (by rw[HGN.o];exact HN.o),ħ (by rw[HGN.o];exact O6.o),B6,X6,S6⟩
    case measure=>simp only[intOf];omega
  ·have ii:¬ (i:Int)<un:=by omega
   obtain rfl:un=i:=by omega
   have HO:Hid (OwnK wr w.heap.size 1 RES.length lc (Za0 RES) lo):=ħ (by rw[<- HGE.o,<- HN.o];exact O6.o.lower (by omega));have HNR:Hid (n=RES.length):=ħ (by rw[<- HGE.o];exact HN.o)
   go_wp2_with fail
   go_ret;exact⟨⟨lo,lc,by rw[<- HNR.o];rfl,HO.o⟩,B6.o⟩
end
section
open Go.RowKit Go.Sort Go.Maps
theorem Zmh(w:World)(c:Crw)(cs:List Value)(ha:ArgR w c cs) :
  Calls Tryz.prog 42 #[.agg cs.toArray] w fun e w'=>e = .returned (.tuple #[.int .i64 (((Zdm c).1:Nat):Int),.int .i64 (((Zdm c).2:Nat):Int)])/\Below w.heap.size w w':=by
 have HVC:=ħ (fun W (hW:Below w.heap.size w W)=>Zgk W c cs (ha.below hW));have hun:=ha.nu;have HRK:=ħ (fun(h:Zal c=true)=>Zaw h (by omega));have HTA:=ħ (fun W (hW:Below w.heap.size w W) (h:Zal c=true)=>Zmd W c cs (ha.below hW) h);have HCO:=ħ (fun W ts (h:Zal c=true) (ht:Zt9 W c (Za7 c) ts)=>Zmg W c (Za7 c) (HRK.o h) ts ht);have HGR:=ħ (fun W (hW:Below w.heap.size w W) (k:Nat)=>Zuf W c cs (ha.crw.below hW) (by omega) (k:Int));have HGE:=ħ (fun(h:Zal c=true) k=>Zxj (HRK.o h) k);have HRE:Hid (Zdm c=if Zal c=true then Zc9 (Za1 c (Za7 c)) else(0,1)):=ħ rfl;have HCD:Hid (Zc9 (Za1 c (Za7 c))=if (List.range 16).any (fun w=>decide (12<(Zcu (Za1 c (Za7 c)) w).length))=true then(0,6) else if 1152921504606846976<Zgv (Za1 c (Za7 c)) then(0,6) else(Zgv (Za1 c (Za7 c)),0)):=ħ rfl
 have HCL:Hid (Zgv (Za1 c (Za7 c))<=Zat):=ħ (by
  unfold Zgv
  cases h:cntTo' (Za1 c (Za7 c)) 16 with
  | none=>exact Nat.zero_le _
  | some x=>exact cntTo_le' _ _ x h)
 obtain⟨qo,qc,mo,mc,uo,uc,rfl,-,-⟩:=Zd7 ha.crw;clear ha;generalize Zdm c=RES at *;generalize Zc9 (Za1 c (Za7 c))=CD at *;generalize hct:Zgv (Za1 c (Za7 c))=ct at *;clear hct;have HGL:Hid (∀ (k:Nat),Zal c=true->(Zgp c (k:Int)).length=(Zcu (Za1 c (Za7 c)) k).length):=ħ (fun k h=>by rw[HGE.o h k]);clear HGE HRK;generalize Za1 c (Za7 c)=T at *;generalize Zal c=vc at *;generalize c.qs.length=qn at *;generalize c.ms.length=mn at *;generalize c.us.length=un at *;have X1:Hid (Zae (w.alloc (.cells #[.slice qo qn qc,.slice mo mn mc,.slice uo un uc] 26)) w.heap.size 26 [.slice qo qn qc,.slice mo mn mc,.slice uo un uc]):=ħ (heap_alloc_new w _);have B1:=ħ ((đc w.heap.size w).alloc (đd _) (.cells #[.slice qo qn qc,.slice mo mn mc,.slice uo un uc] 26))
 go_enter Tryz.func42,Tryz.ntmps42
 go_upto_region 1 with(fail)
 generalize w.alloc (.cells #[.slice qo qn qc,.slice mo mn mc,.slice uo un uc] 26)=w1 at *
 go_wp2_with (refine wpList_load_row rfl 26 (.tmp 1) rfl (w.heap.size) ?x1 26 #[.slice qo qn qc,.slice mo mn mc,.slice uo un uc] (0,0) _ X1.o Tryz.underlying26 rfl (Zbf _ _ _) ?_;(case x1=>rfl))
 refine(HVC.o w1 B1.o).mono ?_;rintro e w2 ⟨rfl,b2⟩;have X2:=ħ (X1.o.step b2);have B2:=ħ (B1.o.trans (b2.mono B1.o.size));clear b2 X1 B1 HVC
 cases vc with
 | false =>
  have HE:Hid (RES=(0,1)):=ħ (by rw[HRE.o];rfl)
  go_wp2_with fail
  go_ret2
  exact⟨by rw[HE.o];rfl,B2.o⟩
 | true =>
  have HRE:Hid (RES=CD):=ħ (by rw[HRE.o];rfl)
  go_upto_region 4 with(fail)
  go_loopw [4] (fun kv wr=>∃ (k:Nat),kv = .int .i64 k/\k<=16/\Hid (∀ j,j<k->(Zcu T j).length<=12)/\Hid (Below w.heap.size w wr)/\Hid (Zae wr w.heap.size 26 [.slice qo qn qc,.slice mo mn mc,.slice uo un uc])) (fun k _=>(16-intOf k).toNat)
  case atStart=>exact⟨0,rfl,by omega,ħ (fun j hj=>by omega),B2,X2⟩
  case round =>
   clear B2 X2;obtain⟨k,rfl,hk,HK,BR,XR⟩:=hrel;have e2:IntKind.i64.wrap ((k:Int)+1)=((k+1:Nat):Int):=đh _ (by omega);by_cases hk16:k<16
   ·have kk:(k:Int)<16:=by omega
    obtain⟨gl,hgl⟩:∃ n,(Zgp c (k:Int)).length=n:=⟨_,rfl⟩;have HGK:=ħ (fun W (hW:Below w.heap.size w W)=>HGR.o W hW k);rw[hgl] at HGK;have HGT:Hid ((Zcu T k).length=gl):=ħ (by rw[<- hgl];exact(HGL.o k (by trivial)).symm);clear hgl
    go_wp2_with (refine wpList_load_row rfl 26 (.tmp 1) rfl (w.heap.size) ?x1 26 #[.slice qo qn qc,.slice mo mn mc,.slice uo un uc] (0,0) _ XR.o Tryz.underlying26 rfl (Zbf _ _ _) ?_;(case x1=>rfl))
    refine(HGK.o wr BR.o).mono ?_;intro e w4 hq;obtain⟨⟨o4,c4,rfl,-⟩,b4⟩:=hq;have XN:=ħ (XR.o.step b4);have BN:=ħ (BR.o.trans (b4.mono BR.o.size));clear b4 XR BR HGK;by_cases h12:(12:Int)<(gl:Int)
    ·have HE:Hid (RES=(0,6)):=ħ (HRE.o.trans (HCD.o.trans (if_pos (List.any_eq_true.2 ⟨k,List.mem_range.2 hk16,by
      show decide (12<(Zcu T k).length)=true
      rw[HGT.o];exact decide_eq_true (by omega)⟩))))
     go_wp2_with fail
     go_ret2
     exact⟨by rw[HE.o];rfl,BN.o⟩
    ·have HKN:Hid (∀ j,j<k+1->(Zcu T j).length<=12):=ħ (fun j hj=>by
      rcases đw j k with h | h
      ·exact HK.o j h
      ·obtain rfl:j=k:=by omega
       rw[HGT.o];omega)
     clear HK
     go_wp2_with fail
     go_roundw
     case rel=>exact⟨k+1,by go_num,by omega,HKN,BN,XN⟩
     case measure=>simp only[intOf];omega
   ·have kk:¬ (k:Int)<16:=by omega
    obtain rfl:k=16:=by omega
    have HCD:Hid (CD=if 1152921504606846976<ct then(0,6) else(ct,0)):=ħ (by
     rw[HCD.o,if_neg];intro h;obtain⟨j,hj,h2⟩:=List.any_eq_true.1 h;have:=HK.o j (List.mem_range.1 hj);have:=of_decide_eq_true h2
     omega)
    go_upto_region 8 with(fail)
    go_wp2_with (refine wpList_load_row rfl 26 (.tmp 1) rfl (w.heap.size) ?x1 26 #[.slice qo qn qc,.slice mo mn mc,.slice uo un uc] (0,0) _ XR.o Tryz.underlying26 rfl (Zbf _ _ _) ?_;(case x1=>rfl))
    refine(HTA.o wr BR.o (by trivial)).mono ?_;intro e w5 hq;obtain⟨⟨ts,rfl,hts⟩,b5⟩:=hq;have BN:=ħ (BR.o.trans (b5.mono BR.o.size));have HC:=ħ (HCO.o w5 ts (by trivial) hts);clear b5 hts XR BR
    go_wp2_with fail
    refine HC.o.mono ?_;rintro e w6 ⟨rfl,b6⟩;have B6:=ħ (BN.o.trans (b6.mono BN.o.size));have hc:=HCL.o;have hm:Zat=1152921504606846977:=rfl;clear b6 BN HC;by_cases hbig:(1152921504606846976:Int)<(ct:Int)
    ·have HE:Hid (RES=(0,6)):=ħ (HRE.o.trans (HCD.o.trans (if_pos (by omega))))
     go_wp2_with fail
     go_ret2
     exact⟨by rw[HE.o];rfl,B6.o⟩
    ·have HE:Hid (RES=(ct,0)):=ħ (HRE.o.trans (HCD.o.trans (if_neg (by omega))))
     go_wp2_with fail
     go_ret2
     exact⟨by rw[HE.o];rfl,B6.o⟩
theorem Zug(w:World)(c:Crw)(cs:List Value)(u:Int)(ha:ArgR w c cs) :
  Calls Tryz.prog 114 #[.agg cs.toArray,.int .i64 u] w fun e w'=>e = .returned (.bool (Zal c&&Zco u c.us.length))/\Below w.heap.size w w':=by
 have HVC:=ħ (fun W (hW:Below w.heap.size w W)=>Zgk W c cs (ha.below hW));have hun:=ha.nu;have HIN:=ħ (fun W=>Zfv u 0 ((c.us.length:Int)-1) W);have HIX:Hid (Zco u c.us.length=inB u 0 ((c.us.length:Int)-1)):=ħ rfl;rw[HIX.o];obtain⟨qo,qc,mo,mc,uo,uc,rfl,-,-⟩:=Zd7 ha.crw;clear ha HIX;generalize Zal c=vc at *;generalize c.qs.length=qn at *;generalize c.ms.length=mn at *;generalize c.us.length=un at *;have X1:Hid (Zae (w.alloc (.cells #[.slice qo qn qc,.slice mo mn mc,.slice uo un uc] 26)) w.heap.size 26 [.slice qo qn qc,.slice mo mn mc,.slice uo un uc]):=ħ (heap_alloc_new w _);have B1:=ħ ((đc w.heap.size w).alloc (đd _) (.cells #[.slice qo qn qc,.slice mo mn mc,.slice uo un uc] 26));have e1:IntKind.i64.wrap ((un:Int)-1)=(un:Int)-1:=đh _ (by omega);generalize inB u 0 ((un:Int)-1)=ib at *
 go_enter Tryz.func114,Tryz.ntmps114
 go_upto_region 1 with(fail)
 generalize w.alloc (.cells #[.slice qo qn qc,.slice mo mn mc,.slice uo un uc] 26)=w1 at *
 go_wp2_with (refine wpList_load_row rfl 26 (.tmp 2) rfl (w.heap.size) ?x1 26 #[.slice qo qn qc,.slice mo mn mc,.slice uo un uc] (0,0) _ X1.o Tryz.underlying26 rfl (Zbf _ _ _) ?_;(case x1=>rfl))
 refine(HVC.o w1 B1.o).mono ?_;rintro e w2 ⟨rfl,b2⟩;have X2:=ħ (X1.o.step b2);have B2:=ħ (B1.o.trans (b2.mono B1.o.size));clear b2 X1 B1 HVC;have c2:=X2.o.cell 2 _ rfl
 cases vc with
 | false =>
  go_wp2_with fail
  go_ret;exact⟨rfl,B2.o⟩
 | true =>
  go_wp2_with fail
  refine(HIN.o w2).mono ?_;rintro e w3 ⟨rfl,rfl⟩
  go_wp2_with fail
  go_ret;exact⟨rfl,B2.o⟩
theorem Zqv(w:World)(c:Crw)(cs:List Value)(u:Int)(ha:ArgR w c cs) :
  Calls Tryz.prog 44 #[.agg cs.toArray,.int .i64 u] w fun e w'=>Zqn w w' (Zci c u).1 (Zci c u).2 e:=by
 have HTH:=ħ (fun W (hW:Below w.heap.size w W)=>Zug W c cs u (ha.below hW));have HCT:=ħ (fun W (hW:Below w.heap.size w W)=>Zmh W c cs (ha.below hW));have hun:=ha.nu;have hmn:=ha.ok.nm;have HRK:=ħ (fun(h:Zal c=true)=>Zaw h (by omega));have HTA:=ħ (fun W (hW:Below w.heap.size w W) (h:Zal c=true)=>Zmd W c cs (ha.below hW) h);have HPA:Hid (Zci c u=if (Zal c&&Zco u c.us.length)=true then(if (Zc9 (Za1 c (Za7 c))).2=0 then((List.range c.ms.length).map (shr c u),0) else([],(Zc9 (Za1 c (Za7 c))).2)) else([],1)):=ħ rfl;have HCA:Hid (Zdm c=if Zal c=true then Zc9 (Za1 c (Za7 c)) else(0,1)):=ħ rfl
 have HIV:Hid ((Zal c&&Zco u c.us.length)=true->∃ v:Nat,u=(v:Int)/\v<c.us.length/\Zal c=true):=ħ (fun h=>by
  rw[đi] at h;obtain⟨v,h1,h2⟩:=Zbx h.2
  exact⟨v,h1,h2,h.1⟩)
 have HFX:=ħ (fun(v:Nat) (hv:Zal c=true) (hl:v<c.us.length) W ts (ht:Zt9 W c (Za7 c) ts) (k:Nat) (hk:k<c.ms.length)=>Zub W c (Za7 c) ts ht (HRK.o hv).row (by rw[(HRK.o hv).len];omega) (HRK.o hv).nm v k (by rw[(HRK.o hv).len];exact hl) hk);have HCF:=ħ (fun(v:Nat) (hv:Zal c=true) (hl:v<c.us.length) (k:Nat) (hk:k<c.ms.length) W ts (ht:Zt9 W c (Zcy c (Za7 c) v k) ts)=>Zmg W c (Zcy c (Za7 c) v k) ((HRK.o hv).fix v k) ts ht);have HM64:=ħ (fun(h:Zal c=true)=>(Zau h).2.1);have HSE:Hid (∀ k,k<=c.ms.length->((List.range k).map (shr c u)).length=k):=ħ (fun k _=>by simp);obtain⟨qo,qc,mo,mc,uo,uc,rfl,-,-⟩:=Zd7 ha.crw;clear ha;generalize Zci c u=RES at *;generalize Zdm c=CA at *;generalize Zc9 (Za1 c (Za7 c))=CD at *;have X1:Hid (Zae (w.alloc (.cells #[.slice qo c.qs.length qc,.slice mo c.ms.length mc,.slice uo c.us.length uc] 26)) w.heap.size 26 [.slice qo c.qs.length qc,.slice mo c.ms.length mc,.slice uo c.us.length uc]):=ħ (heap_alloc_new w _);have B1:=ħ ((đc w.heap.size w).alloc (đd _) (.cells #[.slice qo c.qs.length qc,.slice mo c.ms.length mc,.slice uo c.us.length uc] 26));generalize c.qs.length=qn at *;generalize hme:c.ms.length=mn at *;generalize hue:c.us.length=un at *;clear hme hue;generalize Zal c=vc at *
 go_enter Tryz.func44,Tryz.ntmps44
 go_upto_region 1 with(fail)
 generalize w.alloc (.cells #[.slice qo qn qc,.slice mo mn mc,.slice uo un uc] 26)=w1 at *
 go_wp2_with (refine wpList_load_row rfl 26 (.tmp 2) rfl (w.heap.size) ?x1 26 #[.slice qo qn qc,.slice mo mn mc,.slice uo un uc] (0,0) _ X1.o Tryz.underlying26 rfl (Zbf _ _ _) ?_;(case x1=>rfl))
 refine(HTH.o w1 B1.o).mono ?_;rintro e w2 ⟨rfl,b2⟩;have X2:=ħ (X1.o.step b2);have B2:=ħ (B1.o.trans (b2.mono B1.o.size));clear b2 X1 B1 HTH;obtain⟨ib,hib⟩:∃ b,(vc&&Zco u un)=b:=⟨_,rfl⟩;rw[hib] at HPA HIV ⊢;clear hib
 cases ib with
 | false =>
  have HE:Hid (RES=([],1)):=ħ (by rw[HPA.o];rfl)
  go_wp2_with fail
  go_ret2
  exact⟨B2.o,none,0,by rw[HE.o];rfl,by rw[HE.o];exact .inl rfl⟩
 | true =>
  obtain⟨v,rfl,hvl,rfl⟩:=HIV.o rfl;have HCA:Hid (CA=CD):=ħ (by rw[HCA.o];rfl);rw[if_pos rfl] at HPA
  go_upto_region 3 with(fail)
  go_wp2_with (refine wpList_load_row rfl 26 (.tmp 2) rfl (w.heap.size) ?x3 26 #[.slice qo qn qc,.slice mo mn mc,.slice uo un uc] (0,0) _ X2.o Tryz.underlying26 rfl (Zbf _ _ _) ?_;(case x3=>rfl))
  refine(HCT.o w2 B2.o).mono ?_;rintro e w3 ⟨rfl,b3⟩;have X3:=ħ (X2.o.step b3);have B3:=ħ (B2.o.trans (b3.mono B2.o.size));clear b3 X2 B2 HCT;rw[HCA.o];obtain⟨cd1,cd2⟩:=CD;by_cases h0:cd2=0
  ·have q0:(((cd2:Nat):Int) != 0)=false:=by simpa using h0
   have HE:Hid (RES=((List.range mn).map (shr c (v:Int)),0)):=ħ (HPA.o.trans (if_pos h0));have HTS:=ħ (HTA.o w3 B3.o (by trivial));have HCK:=ħ (fun k (hk:k<mn) W ts ht=>HCF.o v (by trivial) hvl k hk W ts ht);have HFK:=ħ (fun W ts ht k (hk:k<mn)=>HFX.o v (by trivial) hvl W ts ht k hk);have hm64:=HM64.o (by trivial);have HSC:Hid (∀ k,Zgv (Za1 c (Zcy c (Za7 c) v k))=shr c (v:Int) k):=ħ (fun k=>rfl);clear HTA HCF HFX HM64 HPA HCA HRK HIV
   go_upto_region 6 with(fail)
   clear q0
   go_wp2_with (refine wpList_load_row rfl 26 (.tmp 2) rfl (w.heap.size) ?x4 26 #[.slice qo qn qc,.slice mo mn mc,.slice uo un uc] (0,0) _ X3.o Tryz.underlying26 rfl (Zbf _ _ _) ?_;(case x4=>rfl))
   refine HTS.o.mono ?_;intro e w4 hq;obtain⟨⟨ts,rfl,hts⟩,b4⟩:=hq;have X4:=ħ (X3.o.step b4);have B4:=ħ (B3.o.trans (b4.mono B3.o.size));have HTB:=ħ (fun W (hW:Below w4.heap.size w4 W)=>hts.below hW);obtain⟨q2,d1,q3,d2,q4,d3,q5,d4,rfl,-⟩:=hts;generalize hn1:c.qs.length=n1 at *;generalize hn2:c.ms.length=n2 at *;generalize hn3:c.us.length=n3 at *;generalize hn4:(Za7 c).length=n4 at *;clear b4 X3 B3 HTS hn1 hn2 hn3 hn4;have O1:Hid (Zae (w4.alloc (.cells #[.slice none 0 0,.slice none 0 0,.slice none 0 0,.slice none 0 0] 137)) w4.heap.size 137 [.slice none 0 0,.slice none 0 0,.slice none 0 0,.slice none 0 0]):=ħ (heap_alloc_new w4 _);have BO:=ħ ((đc w4.heap.size w4).alloc (đd _) (.cells #[.slice none 0 0,.slice none 0 0,.slice none 0 0,.slice none 0 0] 137))
   go_upto_region 7 with(refine Zaq rfl 137 (.tmp 8) (.tmp 24) rfl w4.heap.size #[.slice q2 n1 d1,.slice q3 n2 d2,.slice q4 n3 d3,.slice q5 n4 d4] (by rfl) (by rfl) 137 _ O1.o (Zdr _ _ _ _) rfl (by simp[Value.oneCell']) ?_;intro w9 s9 u9;have S9:=ħ s9;have U9:=ħ u9;clear s9 u9)
   have A9:=ħ (U9.o.below BO.o (đd _));have S9:Hid (Zae w9 w4.heap.size 137 [.slice q2 n1 d1,.slice q3 n2 d2,.slice q4 n3 d3,.slice q5 n4 d4]):=ħ S9.o;have X9:=ħ (X4.o.step A9.o);have B9:=ħ (B4.o.trans (A9.o.mono B4.o.size));have HTB:=ħ (fun W (hW:Below w9.heap.size w9 W)=>HTB.o W (A9.o.trans (hW.mono A9.o.size)));obtain⟨TBK,hTBK⟩:∃ n,w4.heap.size=n:=⟨_,rfl⟩;rw[hTBK] at S9 ⊢;clear O1 BO U9 A9 X4 B4 hTBK;have bx:=(đc w9.heap.size w9).alloc (đd _) (.cells #[] 3);have O5:=ħ (OwnK.made w9 3 1);have W5:=ħ bx;have X5:=ħ (X9.o.step bx);have S5:=ħ (S9.o.step bx);have B5:=ħ (B9.o.trans (bx.mono B9.o.size));have HSZ:Hid (w.heap.size<w9.heap.size/\TBK<w9.heap.size):=ħ ⟨X9.o.lt,S9.o.lt⟩;clear bx X9 S9
   go_upto_region 9 with(fail)
   generalize w9.alloc (.cells #[] 3)=w5 at *;have HMN:Hid (∀ k,k<mn->Za0 ((List.range k).map (shr c (v:Int)))++[.int .i64 ((shr c (v:Int) k:Nat):Int)]=Za0 ((List.range (k+1)).map (shr c (v:Int)))):=ħ (fun k _=>by rw[Zf9];exact Zbt _ _)
   go_loopw [9,10] (fun lv kv wr=>∃ (k:Nat) (lo:Option Addr) (lc:Nat),kv = .int .i64 k/\k<=mn/\lv = .slice lo k lc/\Hid (OwnK wr w9.heap.size 1 k lc (Za0 ((List.range k).map (shr c (v:Int)))) lo)/\Hid (Below w9.heap.size w9 wr)/\Hid (Below w.heap.size w wr)/\Hid (Zae wr w.heap.size 26 [.slice qo qn qc,.slice mo mn mc,.slice uo un uc])/\Hid (Zae wr TBK 137 [.slice q2 n1 d1,.slice q3 n2 d2,.slice q4 n3 d3,.slice q5 n4 d4])) (fun _ k _=>(mn-intOf k).toNat)
   case atStart=>exact⟨0,_,0,rfl,by omega,rfl,ħ (by simpa [Za0] using O5.o),W5,B5,X5,S5⟩
   case round =>
    clear O5 W5 X5 B5 S5;obtain⟨k,lo,lc,rfl,hk,rfl,O6,W6,B6,X6,S6⟩:=hrel;have e3:IntKind.i64.wrap ((k:Int)+1)=((k+1:Nat):Int):=đh _ (by omega);have c1:=X6.o.cell 1 _ rfl;by_cases hkm:k<mn
    ·have kk:(k:Int)<mn:=by omega
     have HF:=ħ (HFK.o wr _ (HTB.o wr W6.o) k hkm);have HCK:=ħ (fun W ts ht=>HCK.o k hkm W ts ht);rw[HSC.o] at HCK;have HMK:=ħ (HMN.o k hkm);generalize shr c (v:Int) k=sk at *;obtain⟨pr,hpr⟩:∃ l,Za0 ((List.range k).map (shr c (v:Int)))=l:=⟨_,rfl⟩;rw[hpr] at O6 HMK;clear hpr
     go_upto_region 11 with(fail)
     clear c1
     go_wp2_with (refine wpList_load_row rfl 137 (.tmp 8) rfl (TBK) ?xt 137 #[.slice q2 n1 d1,.slice q3 n2 d2,.slice q4 n3 d3,.slice q5 n4 d4] (0,0) _ S6.o Tryz.underlying137 rfl (Zdr _ _ _ _) ?_;(case xt=>rfl))
     refine HF.o.mono ?_;intro e w7 hq;obtain⟨⟨ts,rfl,hts⟩,b7⟩:=hq;have HC:=ħ (HCK.o w7 ts hts);have W7:=ħ (W6.o.trans (b7.mono W6.o.size));have B7:=ħ (B6.o.trans (b7.mono B6.o.size));have X7:=ħ (X6.o.step b7);have S7:=ħ (S6.o.step b7);have O7:=ħ (O6.o.below b7);clear b7 hts W6 B6 X6 S6 O6 HF HCK
     go_wp2_with fail
     refine HC.o.mono ?_;rintro e w8 ⟨rfl,b8⟩;have W8:=ħ (W7.o.trans (b8.mono W7.o.size));have B8:=ħ (B7.o.trans (b8.mono B7.o.size));have X8:=ħ (X7.o.step b8);have S8:=ħ (S7.o.step b8);have O8:=ħ (O7.o.below b8);clear b8 W7 B7 X7 S7 O7 HC
     go_wp2_with (at_builtin;go_loud (refine Zcn 33 3 (.int .i64 0) 1 8 Tryz.underlying33 Zbl rfl (by omega) (by omega) w8 w9.heap.size rfl (.tmp 33) (.tmp 39) rfl lo lc k pr ?q1 O8.o W8.o.size 1 1 #[.int .i64 (sk:Int)] 3 ?q2 rfl (by omega) ?q3 ?q4 ?_);(case q1=>rfl);(case q2=>rfl);(case q3=>simp[Value.oneCell']);(case q4=>omega);intro g5 off5 c5 wa o8 gr8 b8 or8;have O9:=ħ o8;have X9:=ħ (X8.o.grownBy gr8 (fun e=>by have h:=(O8.o.blk_lt e).1;have:=HSZ.o;omega));have S9:=ħ (S8.o.grownBy gr8 (fun e=>by have h:=(O8.o.blk_lt e).1;have:=HSZ.o;omega));have W9:=ħ (W8.o.trans b8);have BB:=ħ (B8.o.trans (b8.mono B9.o.size));clear o8 gr8 b8 or8)
     go_roundw
     case rel=>exact⟨k+1,some ⟨g5,off5,none⟩,c5,by go_num,by omega,rfl,ħ (by rw[<- HMK.o];exact O9.o),W9,BB,X9,S9⟩
     case measure=>simp only[intOf];omega
    ·have kk:¬ (k:Int)<mn:=by omega
     obtain rfl:mn=k:=by omega
     have HO:=ħ (Zcm O6.o (HSE.o mn (đd _)).symm);have HEN:Hid (RES.1.length=mn):=ħ (by rw[HE.o];exact HSE.o mn (đd _))
     go_wp2_with fail
     go_ret2
     refine⟨B6.o,lo,lc,?_,?_⟩
     ·rw[HEN.o,HE.o];rfl
     ·rw[HE.o];exact HO.o
  ·have q0:(((cd2:Nat):Int) != 0)=true:=by simpa using h0
   have HE:Hid (RES=([],cd2)):=ħ (HPA.o.trans (if_neg h0))
   go_wp2_with fail
   go_ret2
   exact⟨B3.o,none,0,by rw[HE.o];rfl,by rw[HE.o];exact .inl rfl⟩
end
section
open Go.RowKit Go.Sort Go.Maps
theorem Z4x(t:Array Value)(h:t.size=24):∃ f:Nat->Value,t=#[f 0,f 1,f 2,f 3,f 4,f 5,f 6,f 7,f 8,f 9,f 10,f 11,f 12,f 13,f 14,f 15,f 16,f 17,f 18,f 19,f 20,f 21,f 22,f 23]:=by
 obtain⟨l⟩:=t;have hl:l.length=24:=h
 have e:l=(List.range 24).map (fun i=>l.getD i undef):=by
  apply List.ext_getElem
  ·simp[hl]
  ·intro i h1 h2
   simp[List.getD,h1]
 exact⟨fun i=>l.getD i undef,congrArg List.toArray e⟩
theorem Z3u(t:Array Value)(h:t.size=44):∃ f:Nat->Value,t=#[f 0,f 1,f 2,f 3,f 4,f 5,f 6,f 7,f 8,f 9,f 10,f 11,f 12,f 13,f 14,f 15,f 16,f 17,f 18,f 19,f 20,f 21,f 22,f 23,f 24,f 25,f 26,f 27,f 28,f 29,f 30,f 31,f 32,f 33,f 34,f 35,f 36,f 37,f 38,f 39,f 40,f 41,f 42,f 43]:=by
 obtain⟨l⟩:=t;have hl:l.length=44:=h
 have e:l=(List.range 44).map (fun i=>l.getD i undef):=by
  apply List.ext_getElem
  ·simp[hl]
  ·intro i h1 h2
   simp[List.getD,h1]
 exact⟨fun i=>l.getD i undef,congrArg List.toArray e⟩
theorem Z3v(t:Array Value)(h:t.size=41):∃ f:Nat->Value,t=#[f 0,f 1,f 2,f 3,f 4,f 5,f 6,f 7,f 8,f 9,f 10,f 11,f 12,f 13,f 14,f 15,f 16,f 17,f 18,f 19,f 20,f 21,f 22,f 23,f 24,f 25,f 26,f 27,f 28,f 29,f 30,f 31,f 32,f 33,f 34,f 35,f 36,f 37,f 38,f 39,f 40]:=by
 obtain⟨l⟩:=t;have hl:l.length=41:=h
 have e:l=(List.range 41).map (fun i=>l.getD i undef):=by
  apply List.ext_getElem
  ·simp[hl]
  ·intro i h1 h2
   simp[List.getD,h1]
 exact⟨fun i=>l.getD i undef,congrArg List.toArray e⟩
def Z36(CB gq oq ix n lc qn qc:Nat)(qo:Option Addr)(q:Int)(bb:Bool)(i:Nat)(W:World)(v:Value):Prop:=match i with
 | 0=>v = .slice (some ⟨gq,oq,none⟩) n lc
 | 1=>v = .int .i64 (ix:Nat)
 | 2=>v = .pointer (some ⟨gq,oq+ix,none⟩)
 | 3=>v = .int .i64 q
 | 4=>v = .pointer (some ⟨CB,0,none⟩)
 | 5=>v = .slice qo qn qc
 | 6=>v = .int .i64 (qn:Nat)
 | 7=>v = .int .i64 ((qn:Int)-1)
 | 8=>v = .bool bb
 | 9=>v = .bool (!bb)
 | _=>True
theorem Zyo(CB gq oq ix n lc qn qc:Nat)(qo:Option Addr)(q:Int)(bb:Bool):∀ i w w' v,Z36 CB gq oq ix n lc qn qc qo q bb i w v->Below w.heap.size w w'->Z36 CB gq oq ix n lc qn qc qo q bb i w' v:=by
 intro i w w' v h hb
 match i with
 | 0=>exact h
 | 1=>exact h
 | 2=>exact h
 | 3=>exact h
 | 4=>exact h
 | 5=>exact h
 | 6=>exact h
 | 7=>exact h
 | 8=>exact h
 | 9=>exact h
 | k+10=>trivial
def Z37(CB gq oq ix n lc k qn qc mn mc un uc:Nat)(qo mo uo:Option Addr)(q:Nat)(hb':Bool)(i:Nat)(W:World)(v:Value):Prop:=match i with
 | 0=>v = .bool true
 | 1=>v = .bool true
 | 2=>v = .agg #[.slice qo qn qc,.slice mo mn mc,.slice uo un uc]
 | 3=>v = .slice (some ⟨gq,oq,none⟩) n lc
 | 4=>v = .int .i64 (ix:Nat)
 | 5=>v = .pointer (some ⟨gq,oq+ix,none⟩)
 | 6=>v = .int .i64 (q:Nat)
 | 7=>v = .int .i64 (k:Nat)
 | 8=>v = .bool hb'
 | 9=>v = .bool hb'
 | _=>True
theorem Zyp(CB gq oq ix n lc k qn qc mn mc un uc:Nat)(qo mo uo:Option Addr)(q:Nat)(hb':Bool):∀ i w w' v,Z37 CB gq oq ix n lc k qn qc mn mc un uc qo mo uo q hb' i w v->Below w.heap.size w w'->Z37 CB gq oq ix n lc k qn qc mn mc un uc qo mo uo q hb' i w' v:=by
 intro i w w' v h hb
 match i with
 | 0=>exact h
 | 1=>exact h
 | 2=>exact h
 | 3=>exact h
 | 4=>exact h
 | 5=>exact h
 | 6=>exact h
 | 7=>exact h
 | 8=>exact h
 | 9=>exact h
 | k+10=>trivial
def Z38(CB gq oq ix n lc k qn qc mn mc un uc:Nat)(qo mo uo:Option Addr)(q:Nat)(hb':Bool)(i:Nat)(W:World)(v:Value):Prop:=match i with
 | 0=>v = .bool false
 | 1=>v = .bool false
 | 2=>v=undef
 | 3=>v=undef
 | 4=>v=undef
 | 5=>v=undef
 | 6=>v=undef
 | 7=>v=undef
 | 8=>v=undef
 | 9=>v = .bool false
 | _=>True
theorem Zyq(CB gq oq ix n lc k qn qc mn mc un uc:Nat)(qo mo uo:Option Addr)(q:Nat)(hb':Bool):∀ i w w' v,Z38 CB gq oq ix n lc k qn qc mn mc un uc qo mo uo q hb' i w v->Below w.heap.size w w'->Z38 CB gq oq ix n lc k qn qc mn mc un uc qo mo uo q hb' i w' v:=by
 intro i w w' v h hb
 match i with
 | 0=>exact h
 | 1=>exact h
 | 2=>exact h
 | 3=>exact h
 | 4=>exact h
 | 5=>exact h
 | 6=>exact h
 | 7=>exact h
 | 8=>exact h
 | 9=>exact h
 | k+10=>trivial
def Z39(CB gq oq ix n lc k qn qc mn mc un uc:Nat)(qo mo uo:Option Addr)(q:Nat)(hb':Bool)(i:Nat)(W:World)(v:Value):Prop:=match i with
 | 0=>v = .bool false
 | 1=>v = .bool false
 | 2=>v = .agg #[.slice qo qn qc,.slice mo mn mc,.slice uo un uc]
 | 3=>v = .slice (some ⟨gq,oq,none⟩) n lc
 | 4=>v = .int .i64 (ix:Nat)
 | 5=>v = .pointer (some ⟨gq,oq+ix,none⟩)
 | 6=>v = .int .i64 (q:Nat)
 | 7=>v = .int .i64 (k:Nat)
 | 8=>v = .bool hb'
 | 9=>v = .bool hb'
 | _=>True
theorem Zyr(CB gq oq ix n lc k qn qc mn mc un uc:Nat)(qo mo uo:Option Addr)(q:Nat)(hb':Bool):∀ i w w' v,Z39 CB gq oq ix n lc k qn qc mn mc un uc qo mo uo q hb' i w v->Below w.heap.size w w'->Z39 CB gq oq ix n lc k qn qc mn mc un uc qo mo uo q hb' i w' v:=by
 intro i w w' v h hb
 match i with
 | 0=>exact h
 | 1=>exact h
 | 2=>exact h
 | 3=>exact h
 | 4=>exact h
 | 5=>exact h
 | 6=>exact h
 | 7=>exact h
 | 8=>exact h
 | 9=>exact h
 | k+10=>trivial
def Z4a(CB gq oq ix n lc k qn qc mn mc un uc:Nat)(qo mo uo:Option Addr)(q:Nat)(hb':Bool)(i:Nat)(W:World)(v:Value):Prop:=match i with
 | 0=>v = .bool true
 | 1=>v = .bool true
 | 2=>v=undef
 | 3=>v=undef
 | 4=>v=undef
 | 5=>v=undef
 | 6=>v=undef
 | 7=>v=undef
 | 8=>v=undef
 | 9=>v = .bool true
 | _=>True
theorem Zys(CB gq oq ix n lc k qn qc mn mc un uc:Nat)(qo mo uo:Option Addr)(q:Nat)(hb':Bool):∀ i w w' v,Z4a CB gq oq ix n lc k qn qc mn mc un uc qo mo uo q hb' i w v->Below w.heap.size w w'->Z4a CB gq oq ix n lc k qn qc mn mc un uc qo mo uo q hb' i w' v:=by
 intro i w w' v h hb
 match i with
 | 0=>exact h
 | 1=>exact h
 | 2=>exact h
 | 3=>exact h
 | 4=>exact h
 | 5=>exact h
 | 6=>exact h
 | 7=>exact h
 | 8=>exact h
 | 9=>exact h
 | k+10=>trivial
theorem Zkf{α:Type}(l:List α)(f:α->Bool):(!l.any (fun x=>!f x))=l.all f:=by
 induction l with
 | nil=>rfl
 | cons x l ih=>simp only[List.any_cons,List.all_cons,<- ih];cases f x<;>simp
theorem Zkg(c:Crw)(l:List Int):Zcz c l=(l.all (fun q=>Zco q c.qs.length)&&Zal c):=by
 unfold Zcz;rw[Zkf,Bool.and_comm]
theorem Z1c(c:Crw)(l:List Int)(k:Nat):Zut c l k=l.all (fun q=>Zfk c q k):=Zkf l _
theorem Zyt{α:Type}{l:List α}{f:α->Bool}{i:Nat}{x:α}(h:l[i]?=some x):(l.take (i+1)).all f=((l.take i).all f&&f x):=by
 rw[đv,h,List.all_append];simp
theorem Zyu{α:Type}{l:List α}{f:α->Bool}{i:Nat}{x:α}(h:l[i]?=some x):(l.take (i+1)).any f=((l.take i).any f||f x):=by
 rw[đv,h,List.any_append];simp
theorem Z2y{c:Crw}{q k:Nat}{p:Prd}{m:Mem}(hp:c.qs[q]?=some p)(hm:c.ms[k]?=some m):Zfk c (q:Int) k=hmB p m:=by
 unfold Zfk Zaj;rw[Int.toNat_natCast,đf (l:=c.qs.map _),đj,hp];show(c.ms.map (hmB p)).getD k false=_;rw[đf,đj,hm];rfl
theorem Zpj(w:World)(c:Crw)(cs:List Value)(ha:ArgR w c cs)(hv:Zal c=true)(q k:Nat)(hq:q<c.qs.length)(hk:k<c.ms.length) :
  Calls Tryz.prog 117 #[.agg cs.toArray,.int .i64 (q:Nat),.int .i64 (k:Nat)] w fun e w'=>e = .returned (.bool (Zfk c (q:Int) k))/\Below w.heap.size w w':=by
 rw[Z2y (đb hq) (đb hk)];exact Zkc w c cs ha hv q k _ _ (đb hq) (đb hk)
theorem Zmi(w:World)(c:Crw)(cs:List Value)(l:List Int)(lo:Option Addr)(lc:Nat)(ha:ArgR w c cs)(hl:Zan Zbg w lo l)(hll:l.length<=1000) :
  Calls Tryz.prog 116 #[.agg cs.toArray,.slice lo l.length lc] w fun e w'=>e = .returned (.bool (Zcz c l))/\Below w.heap.size w w':=by
 have HVC:=ħ (fun W (hW:Below w.heap.size w W)=>Zgk W c cs (ha.below hW));have HRE:=ħ (Zkg c l);have HLW:=ħ (fun W (hW:Below w.heap.size w W)=>hl.below hW);have hqn:=ha.ok.nq;obtain⟨qo,qc,mo,mc,uo,uc,rfl,-,-⟩:=Zd7 ha.crw;clear ha hl;generalize Zcz c l=RES at *;generalize Zal c=vc at *;have HIN:=ħ (fun q W=>Zfv q 0 ((c.qs.length:Int)-1) W);have HIX:Hid (∀ q,inB q 0 ((c.qs.length:Int)-1)=Zco q c.qs.length):=ħ (fun q=>rfl);have HE1:Hid (IntKind.i64.wrap ((c.qs.length:Int)-1)=(c.qs.length:Int)-1):=ħ (đh _ (by omega));generalize c.qs.length=qn at *;generalize c.ms.length=mn at *;generalize c.us.length=un at *;obtain⟨n,hn⟩:∃ n,l.length=n:=⟨_,rfl⟩;rw[hn] at hll ⊢;have HLN:=ħ hn;clear hn;have X1:Hid (Zae (w.alloc (.cells #[.slice qo qn qc,.slice mo mn mc,.slice uo un uc] 26)) w.heap.size 26 [.slice qo qn qc,.slice mo mn mc,.slice uo un uc]):=ħ (heap_alloc_new w _);have B1:=ħ ((đc w.heap.size w).alloc (đd _) (.cells #[.slice qo qn qc,.slice mo mn mc,.slice uo un uc] 26))
 go_enter Tryz.func116,Tryz.ntmps116
 go_upto_region 2 with(fail)
 generalize w.alloc (.cells #[.slice qo qn qc,.slice mo mn mc,.slice uo un uc] 26)=w1 at *
 go_loopw [5] (fun iv wr=>∃ (i:Nat),iv = .int .i64 i/\i<=n/\Hid (∀ q∈l.take i,Zco q qn=true)/\Hid (Below w.heap.size w wr)/\Hid (Zae wr w.heap.size 26 [.slice qo qn qc,.slice mo mn mc,.slice uo un uc])) (fun i _=>(n-intOf i).toNat)
 case atStart=>exact⟨0,rfl,by omega,ħ (by simp),B1,X1⟩
 case round =>
  clear B1 X1;obtain⟨ix,rfl,hi,HA,BR,XR⟩:=hrel;have e2:IntKind.i64.wrap ((ix:Int)+1)=((ix+1:Nat):Int):=đh _ (by omega);by_cases hin:ix<n
  ·have ii:(ix:Int)<n:=by omega
   have HII:=ħ ii;obtain⟨q,hq⟩:∃ q,l[ix]?=some q:=⟨_,đb (by rw[HLN.o];exact hin)⟩;obtain⟨gq,oq,hlo,hgq,hcc⟩:=(HLW.o wr BR.o).at Zaz ix q hq;have y0:=hcc 0 _ rfl;rw[Nat.mul_one,Nat.add_zero] at y0;have HQY:=ħ (fun W (hW:Below wr.heap.size wr W)=>(hW.cell (p:=⟨gq,oq+ix,none⟩) hgq).trans y0);have HXB:=ħ (fun W (hW:Below wr.heap.size wr W)=>XR.o.step hW);have HIN:=ħ (fun W=>HIN.o q W);rw[HIX.o] at HIN;have HQI:=ħ hq;obtain⟨bb,hbb⟩:∃ b,Zco q qn=b:=⟨_,rfl⟩;rw[hbb] at HIN;have HBB:=ħ hbb;clear hbb hq hcc y0 hgq;subst hlo
   go_upto_region 4 with(fail)
   refine Za3 (Z36 w.heap.size gq oq ix n lc qn qc qo q bb) (by kernel_rfl) (Zyo w.heap.size gq oq ix n lc qn qc qo q bb) (Zbr (by kernel_rfl)) (Zf5 (by kernel_rfl)) (Zax (by kernel_rfl)) ?hs ?he
   case hs =>
    intro i o hi listed a' w' H hl2;have hl3:=Zap hl2;have hin:i<10:=(đp.1 hi).1;have hb:=ħ H.below;have s1:=H.same 1 (Zam (by kernel_rfl));have s2:=H.same 2 (Zam (by kernel_rfl));have s5:=H.same 5 (Zam (by kernel_rfl));have hdn:=H.done;have hdf:=H.defers;have hts:=H.tsize;clear hl2 H;obtain⟨t',df⟩:=a';obtain⟨f',rfl⟩:=Z4x t' hts;have hdf':df=[]:=hdf;subst hdf';have gs1:f' 1 = .slice (some ⟨gq,oq,none⟩) n lc:=s1;have gs2:f' 2 = .pointer (some ⟨w.heap.size,0,none⟩):=s2;have gs5:f' 5 = .int .i64 (ix:Nat):=s5;clear s1 s2 s5;clear hdf hts;have hcases:=Zdb i hin;clear hin;rcases hcases with rfl | rfl | rfl | rfl | rfl | rfl | rfl | rfl | rfl | rfl
    ·obtain rfl:=đa hi
     clear hdn hl3;rw[gs1];clear gs1 gs2 gs5;refine Zab rfl ?_
     go_wp2_with fail
     exact Zaa ⟨_,rfl,đc _ _,rfl⟩
    ·obtain rfl:=đa hi
     clear hdn hl3;rw[gs5];clear gs1 gs2 gs5;refine Zab rfl ?_
     go_wp2_with fail
     exact Zaa ⟨_,rfl,đc _ _,rfl⟩
    ·obtain rfl:=đa hi
     have dv0:f' 12 = .slice (some ⟨gq,oq,none⟩) n lc:=hdn 0 _ 12 rfl (hl3 0 (by rfl)) rfl;have dv1:f' 13 = .int .i64 (ix:Nat):=hdn 1 _ 13 rfl (hl3 1 (by rfl)) rfl;clear hdn hl3;rw[dv0,dv1];clear dv0 dv1 gs1 gs2 gs5;have ii:=HII.o;refine Zab rfl ?_
     go_wp2_with fail
     exact Zaa ⟨_,rfl,đc _ _,rfl⟩
    ·obtain rfl:=đa hi
     have dv2:f' 14 = .pointer (some ⟨gq,oq+ix,none⟩):=hdn 2 _ 14 rfl (hl3 2 (by rfl)) rfl;clear hdn hl3;rw[dv2];clear dv2 gs1 gs2 gs5;have p0:=HQY.o w' hb.o;refine Zab rfl ?_
     go_wp2_with fail
     exact Zaa ⟨_,rfl,đc _ _,rfl⟩
    ·obtain rfl:=đa hi
     clear hdn hl3;rw[gs2];clear gs1 gs2 gs5;refine Zab rfl ?_
     go_wp2_with fail
     exact Zaa ⟨_,rfl,đc _ _,rfl⟩
    ·obtain rfl:=đa hi
     have dv4:f' 16 = .pointer (some ⟨w.heap.size,0,none⟩):=hdn 4 _ 16 rfl (hl3 4 (by rfl)) rfl;clear hdn hl3;rw[dv4];clear dv4 gs1 gs2 gs5;have c0:=(HXB.o w' hb.o).cell 0 _ rfl;refine Zab rfl ?_
     go_wp2_with fail
     exact Zaa ⟨_,rfl,đc _ _,rfl⟩
    ·obtain rfl:=đa hi
     have dv5:f' 17 = .slice qo qn qc:=hdn 5 _ 17 rfl (hl3 5 (by rfl)) rfl;clear hdn hl3;rw[dv5];clear dv5 gs1 gs2 gs5;refine Zab rfl ?_
     go_wp2_with fail
     exact Zaa ⟨_,rfl,đc _ _,rfl⟩
    ·obtain rfl:=đa hi
     have dv6:f' 18 = .int .i64 (qn:Nat):=hdn 6 _ 18 rfl (hl3 6 (by rfl)) rfl;clear hdn hl3;rw[dv6];clear dv6 gs1 gs2 gs5;have e1:=HE1.o;refine Zab rfl ?_
     go_wp2_with fail
     exact Zaa ⟨_,rfl,đc _ _,rfl⟩
    ·obtain rfl:=đa hi
     have dv3:f' 15 = .int .i64 q:=hdn 3 _ 15 rfl (hl3 3 (by rfl)) rfl;have dv7:f' 19 = .int .i64 ((qn:Int)-1):=hdn 7 _ 19 rfl (hl3 7 (by rfl)) rfl;clear hdn hl3;rw[dv3,dv7];clear dv3 dv7 gs1 gs2 gs5;refine Zab rfl ?_
     go_wp2_with fail
     refine(HIN.o w').mono ?_;rintro e w4 ⟨rfl,rfl⟩
     go_wp2_with fail
     exact Zaa ⟨_,rfl,đc _ _,rfl⟩
    ·obtain rfl:=đa hi
     have dv8:f' 20 = .bool bb:=hdn 8 _ 20 rfl (hl3 8 (by rfl)) rfl;clear hdn hl3;rw[dv8];clear dv8 gs1 gs2 gs5;refine Zab rfl ?_
     go_wp2_with fail
     exact Zaa ⟨_,rfl,đc _ _,rfl⟩
   case he =>
    intro listed a' w4 H hall;have hd9:Z36 w.heap.size gq oq ix n lc qn qc qo q bb 9 w4 (a'.tmps.getD 21 undef):=H.done 9 _ 21 rfl (hall 9 (by decide)) rfl;have hb4:=ħ H.below;have hact:=H.act [12,13,14,15,16,17,18,19,20,21] (Zdd (by kernel_rfl));clear H hall;simp only[List.foldl_cons,List.foldl_nil] at hact;generalize a'.tmps.getD 12 undef=z12 at *;generalize a'.tmps.getD 13 undef=z13 at *;generalize a'.tmps.getD 14 undef=z14 at *;generalize a'.tmps.getD 15 undef=z15 at *;generalize a'.tmps.getD 16 undef=z16 at *;generalize a'.tmps.getD 17 undef=z17 at *;generalize a'.tmps.getD 18 undef=z18 at *;generalize a'.tmps.getD 19 undef=z19 at *;generalize a'.tmps.getD 20 undef=z20 at *;generalize a'.tmps.getD 21 undef=z21 at *;subst hact;have e9:z21 = .bool (!bb):=hd9;subst e9;clear hd9;simp only[Act.put,List.setIfInBounds_toArray,List.set_cons_succ,List.set_cons_zero];have B7:=ħ (BR.o.trans (hb4.o.mono BR.o.size));have X7:=ħ (HXB.o _ hb4.o);clear hb4 BR XR HQY HXB HIN
    cases bb with
    | false =>
     have HE:Hid (RES=false):=ħ (by rw[HRE.o,Zee HQI.o (f:=fun q=>Zco q qn) HBB.o];rfl)
     go_wp2_with fail
     go_ret;exact⟨Zac HE.o.symm,B7.o⟩
    | true =>
     have HAN:=ħ (Zhg (f:=fun q=>Zco q qn) HQI.o HBB.o HA.o)
     go_wp2_with fail
     go_roundw
     case rel=>exact⟨ix+1,by go_num,by omega,HAN,B7,X7⟩
     case measure=>simp only[intOf];omega
  ·have ii:¬ (ix:Int)<n:=by omega
   have HE:Hid (RES=vc):=ħ (by rw[HRE.o,Zkb (f:=fun q=>Zco q qn) (by rw[HLN.o];omega) HA.o,đk])
   go_upto_region 6 with(fail)
   go_wp2_with (refine wpList_load_row rfl 26 (.tmp 2) rfl (w.heap.size) ?x1 26 #[.slice qo qn qc,.slice mo mn mc,.slice uo un uc] (0,0) _ XR.o Tryz.underlying26 rfl (Zbf _ _ _) ?_;(case x1=>rfl))
   refine(HVC.o wr BR.o).mono ?_;rintro e w2 ⟨rfl,b2⟩;have B2:=ħ (BR.o.trans (b2.mono BR.o.size));clear b2 XR BR HVC
   go_wp2_with fail
   go_ret;exact⟨Zac HE.o.symm,B2.o⟩
theorem Zqw(w:World)(c:Crw)(cs:List Value)(l:List Int)(lo:Option Addr)(lc:Nat)(ha:ArgR w c cs)(hl:Zan Zbg w lo l)(hll:l.length<=1000) :
  Calls Tryz.prog 46 #[.agg cs.toArray,.slice lo l.length lc] w fun e w'=>Zlc w w' (Zfj c l) e:=by
 have HRE:Hid (Zfj c l=if Zcz c l=true then(List.range c.ms.length).filter (Zut c l) else []):=ħ rfl;generalize Zfj c l=RES at *
 have HFN:Hid (∀ k,(List.range (k+1)).filter (Zut c l)=(List.range k).filter (Zut c l)++(if l.all (fun q=>Zfk c q k)=true then [k] else [])):=ħ (fun k=>by
  rw[List.range_succ,List.filter_append,List.filter_cons,List.filter_nil,Z1c])
 have HFL2:Hid (∀ k,((List.range k).filter (Zut c l)).length<=k):=ħ (fun k=>by have:=List.length_filter_le (Zut c l) (List.range k);rwa [List.length_range] at this);obtain⟨G,hG⟩:∃ g:Nat->List Nat,(fun i=>(List.range i).filter (Zut c l))=g:=⟨_,rfl⟩;have HG0:Hid (G 0=[]):=ħ (by rw[<- hG];rfl);have HGD:Hid (∀ k,G (k+1)=G k++(if l.all (fun q=>Zfk c q k)=true then [k] else [])):=ħ (by rw[<- hG];exact HFN.o);have HGL:Hid (∀ i,(G i).length<=i):=ħ (by rw[<- hG];exact HFL2.o);have HRE:Hid (RES=if Zcz c l=true then G c.ms.length else []):=ħ (by rw[<- hG];exact HRE.o);clear hG HFN HFL2;have HAK:=ħ (fun W (hW:Below w.heap.size w W)=>Zmi W c cs l lo lc (ha.below hW) (hl.below hW) hll);have HHL:=ħ (fun(hv:Zal c=true) W (hW:Below w.heap.size w W) q k (hq:q<c.qs.length) (hk:k<c.ms.length)=>Zpj W c cs (ha.below hW) hv q k hq hk);have HLW:=ħ (fun W (hW:Below w.heap.size w W)=>hl.below hW)
 have HVA:Hid (Zcz c l=true->Zal c=true/\∀ i q,l[i]?=some q->∃ j:Nat,q=(j:Int)/\j<c.qs.length):=ħ (fun h=>by
  rw[Zkg,đi,List.all_eq_true] at h
  exact⟨h.2,fun i q hq=>Zbx (h.1 q (đe hq))⟩)
 have hqn:=ha.ok.nq;have hmn:=ha.ok.nm;obtain⟨qo,qc,mo,mc,uo,uc,rfl,-,-⟩:=Zd7 ha.crw;clear ha hl;generalize hak:Zcz c l=ak at *;clear hak;generalize Zal c=vc at *;generalize c.qs.length=qn at *;generalize c.ms.length=mn at *;generalize c.us.length=un at *;obtain⟨n,hn⟩:∃ n,l.length=n:=⟨_,rfl⟩;rw[hn] at hll HAK ⊢;have HLN:=ħ hn;clear hn;have X1:Hid (Zae (w.alloc (.cells #[.slice qo qn qc,.slice mo mn mc,.slice uo un uc] 26)) w.heap.size 26 [.slice qo qn qc,.slice mo mn mc,.slice uo un uc]):=ħ (heap_alloc_new w _);have b1:=((đc w.heap.size w).alloc (đd _) (.cells #[.slice qo qn qc,.slice mo mn mc,.slice uo un uc] 26));have bx:=b1.alloc b1.size (.cells #[] 3);have X5:=ħ (X1.o.step ((đc _ _).alloc (đd _) (.cells #[] 3)))
 have O5:Hid (OwnK ((w.alloc (.cells #[.slice qo qn qc,.slice mo mn mc,.slice uo un uc] 26)).alloc (.cells #[] 3)) (w.heap.size+1) 1 0 0 [] (some ⟨w.heap.size+1,0,none⟩)):=ħ (by
  have h:=OwnK.made (w.alloc (.cells #[.slice qo qn qc,.slice mo mn mc,.slice uo un uc] 26)) 3 1;rw[đl] at h
  exact h)
 have B5:=ħ bx;have HS5:Hid (w.heap.size+1<=((w.alloc (.cells #[.slice qo qn qc,.slice mo mn mc,.slice uo un uc] 26)).alloc (.cells #[] 3)).heap.size):=ħ (by rw[đl,đl];omega);clear b1 bx X1
 go_enter Tryz.func46,Tryz.ntmps46
 go_upto_region 2 with(fail)
 generalize (w.alloc (.cells #[.slice qo qn qc,.slice mo mn mc,.slice uo un uc] 26)).alloc (.cells #[] 3)=w5 at *
 go_wp2_with (refine wpList_load_row rfl 26 (.tmp 2) rfl (w.heap.size) ?x1 26 #[.slice qo qn qc,.slice mo mn mc,.slice uo un uc] (0,0) _ X5.o Tryz.underlying26 rfl (Zbf _ _ _) ?_;(case x1=>rfl))
 refine(HAK.o w5 B5.o).mono ?_;rintro e w6 ⟨rfl,b6⟩;have X6:=ħ (X5.o.step b6);have O6:=ħ (O5.o.below b6);have B6:=ħ (B5.o.trans (b6.mono B5.o.size));have HS6:Hid (w.heap.size+1<=w6.heap.size):=ħ (đo HS5.o b6.size);clear b6 X5 O5 B5 HS5 HAK
 cases ak with
 | false =>
  have HE:Hid (RES=[]):=ħ (by rw[HRE.o];rfl)
  go_wp2_with fail
  go_ret;exact⟨⟨some ⟨w.heap.size+1,0,none⟩,0,by rw[HE.o];rfl,by rw[HE.o];exact O6.o.lower (by omega)⟩,B6.o⟩
 | true =>
  obtain⟨hv1,hv2⟩:=HVA.o rfl;have HHL:=ħ (fun W (hW:Below w.heap.size w W) q k hq hk=>HHL.o hv1 W hW q k hq hk);have HQJ:=ħ hv2;have HRE:Hid (RES=G mn):=ħ (by rw[HRE.o];rfl);clear HVA hv1 hv2
  go_upto_region 5 with(fail)
  go_loopw [5,6] (fun av kv wr=>∃ (k r:Nat) (ro:Option Addr) (rc:Nat),kv = .int .i64 k/\k<=mn/\av = .slice ro r rc/\Hid (r=(G k).length)/\Hid (OwnK wr (w.heap.size+1) 1 r rc (Za0 (G k)) ro)/\Hid (Below w.heap.size w wr)/\Hid (Zae wr w.heap.size 26 [.slice qo qn qc,.slice mo mn mc,.slice uo un uc])/\Hid (w.heap.size+1<=wr.heap.size)) (fun _ k _=>(mn-intOf k).toNat)
  case atStart=>exact⟨0,0,_,0,rfl,by omega,rfl,ħ (by rw[HG0.o];rfl),ħ (by rw[HG0.o];simpa [Za0] using O6.o),B6,X6,HS6⟩
  case round =>
   clear O6 B6 X6 HS6;obtain⟨k,r,ro,rc,rfl,hk,rfl,HRN,OK,BK,XK,SK⟩:=hrel;have e3:IntKind.i64.wrap ((k:Int)+1)=((k+1:Nat):Int):=đh _ (by omega);have c1:=XK.o.cell 1 _ rfl;by_cases hkm:k<mn
   ·have kk:(k:Int)<mn:=by omega
    go_upto_region 9 with(fail)
    clear c1;generalize wr=wo at *
    go_loopw [7,8] (fun fv iv wr=>∃ (ix:Nat) (f:Bool),iv = .int .i64 ix/\fv = .bool f/\ix<=n/\Hid ((l.take ix).all (fun q=>Zfk c q k)=f)/\Hid (Below w.heap.size w wr)/\Hid (Below wo.heap.size wo wr)) (fun _ i _=>(n-intOf i).toNat)
    case atStart=>exact⟨0,true,rfl,rfl,by omega,ħ (by simp),BK,ħ (đc _ _)⟩
    case round =>
     obtain⟨ix,f,rfl,rfl,hi,HFL,BR,WR⟩:=hrel;have e2:IntKind.i64.wrap ((ix:Int)+1)=((ix+1:Nat):Int):=đh _ (by omega);by_cases hin:ix<n
     ·have ii:(ix:Int)<n:=by omega
      have HII:=ħ ii;obtain⟨q0,hq0⟩:∃ q,l[ix]?=some q:=⟨_,đb (by rw[HLN.o];exact hin)⟩;obtain⟨q,rfl,hql⟩:=HQJ.o ix q0 hq0;have HNX:=ħ (Zyt (f:=fun q=>Zfk c q k) hq0);obtain⟨gq,oq,hlo,hgq,hcc⟩:=(HLW.o wr BR.o).at Zaz ix (q:Int) hq0;have y0:=hcc 0 _ rfl;rw[Nat.mul_one,Nat.add_zero] at y0;have HQY:=ħ (fun W (hW:Below wr.heap.size wr W)=>(hW.cell (p:=⟨gq,oq+ix,none⟩) hgq).trans y0);have HXB:=ħ (fun W (hW:Below wr.heap.size wr W)=>XK.o.step (WR.o.trans (hW.mono WR.o.size)));have HHO:=ħ (fun W (hW:Below wr.heap.size wr W)=>HHL.o W (BR.o.trans (hW.mono BR.o.size)) q k hql hkm);obtain⟨hb',hbb⟩:∃ b,Zfk c (q:Int) k=b:=⟨_,rfl⟩;have HNX:Hid ((l.take (ix+1)).all (fun q=>Zfk c q k)=((l.take ix).all (fun q=>Zfk c q k)&&hb')):=ħ (by rw[<- hbb];exact HNX.o);rw[hbb] at HHO;clear hbb hq0 hcc y0 hgq;subst hlo
      cases f with
      | true =>
      go_upto_region 11 with(fail)
      refine Za2 10 0 (Z37 w.heap.size gq oq ix n lc k qn qc mn mc un uc qo mo uo q hb') (by kernel_rfl) rfl (Zyp w.heap.size gq oq ix n lc k qn qc mn mc un uc qo mo uo q hb') (Zbr (by kernel_rfl)) (Zeh (by kernel_rfl)) (Zax (by kernel_rfl)) (Zck (by kernel_rfl)) ?hs ?he
      case hs =>
       intro i o hin hi listed a' w' H hsn hl2;have hl3:=Zap hl2;have hb:=ħ H.below;have s1:=hsn 1 (Zak (by kernel_rfl));have s2:=hsn 2 (Zak (by kernel_rfl));have s7:=hsn 7 (Zak (by kernel_rfl));have s8:=hsn 8 (Zak (by kernel_rfl));have s6:=hsn 6 (Zak (by kernel_rfl));have hdn:=H.done;have hdf:=H.defers;have hts:=H.tsize;clear hl2 H hsn;obtain⟨t',df⟩:=a';obtain⟨f',rfl⟩:=Z3u t' hts;have hdf':df=[]:=hdf;subst hdf';have gs1:f' 1 = .slice (some ⟨gq,oq,none⟩) n lc:=s1;have gs2:f' 2 = .pointer (some ⟨w.heap.size,0,none⟩):=s2;have gs7:f' 7 = .bool true:=s7;have gs8:f' 8 = .int .i64 (ix:Nat):=s8;have gs6:f' 6 = .int .i64 (k:Nat):=s6;clear s1 s2 s7 s8 s6;clear hdf hts;have hcases:i=0\/i=1\/i=2\/i=3\/i=4\/i=5\/i=6\/i=7\/i=8\/i=9:=Zdb i hin;clear hin;rcases hcases with rfl | rfl | rfl | rfl | rfl | rfl | rfl | rfl | rfl | rfl
       ·obtain rfl:=đa hi
        clear hdn hl3;rw[gs7];clear gs1 gs2 gs7 gs8 gs6;refine Zab rfl ?_
        go_wp2_with fail
        exact Zaa ⟨_,rfl,đc _ _,rfl⟩
       ·obtain rfl:=đa hi
        have dv0:f' 28 = .bool true:=hdn 0 _ 28 rfl (hl3 0 (by rfl)) rfl;clear hdn hl3;rw[dv0];clear dv0 gs1 gs2 gs7 gs8 gs6;refine Zab rfl ?_
        go_wp2_with fail
        exact Zaa ⟨_,rfl,đc _ _,rfl⟩
       ·obtain rfl:=đa hi
        have dv1:f' 29 = .bool true:=hdn 1 _ 29 rfl (hl3 1 (by rfl)) rfl;clear hdn hl3;rw[gs2,dv1];clear dv1 gs1 gs2 gs7 gs8 gs6;have hx:=HXB.o w' hb.o;have c0:=hx.cell 0 _ rfl;have c1:=hx.cell 1 _ rfl;have c2:=hx.cell 2 _ rfl;clear hx;refine Zab rfl ?_
        go_wp2_with fail
        exact Zaa ⟨_,rfl,đc _ _,rfl⟩
       ·obtain rfl:=đa hi
        have dv1:f' 29 = .bool true:=hdn 1 _ 29 rfl (hl3 1 (by rfl)) rfl;clear hdn hl3;rw[gs1,dv1];clear dv1 gs1 gs2 gs7 gs8 gs6;refine Zab rfl ?_
        go_wp2_with fail
        exact Zaa ⟨_,rfl,đc _ _,rfl⟩
       ·obtain rfl:=đa hi
        have dv1:f' 29 = .bool true:=hdn 1 _ 29 rfl (hl3 1 (by rfl)) rfl;clear hdn hl3;rw[gs8,dv1];clear dv1 gs1 gs2 gs7 gs8 gs6;refine Zab rfl ?_
        go_wp2_with fail
        exact Zaa ⟨_,rfl,đc _ _,rfl⟩
       ·obtain rfl:=đa hi
        have dv1:f' 29 = .bool true:=hdn 1 _ 29 rfl (hl3 1 (by rfl)) rfl;have dv3:f' 31 = .slice (some ⟨gq,oq,none⟩) n lc:=hdn 3 _ 31 rfl (hl3 3 (by rfl)) rfl;have dv4:f' 32 = .int .i64 (ix:Nat):=hdn 4 _ 32 rfl (hl3 4 (by rfl)) rfl;clear hdn hl3;rw[dv1,dv3,dv4];clear dv1 dv3 dv4 gs1 gs2 gs7 gs8 gs6;have ii:=HII.o;refine Zab rfl ?_
        go_wp2_with fail
        exact Zaa ⟨_,rfl,đc _ _,rfl⟩
       ·obtain rfl:=đa hi
        have dv1:f' 29 = .bool true:=hdn 1 _ 29 rfl (hl3 1 (by rfl)) rfl;have dv5:f' 33 = .pointer (some ⟨gq,oq+ix,none⟩):=hdn 5 _ 33 rfl (hl3 5 (by rfl)) rfl;clear hdn hl3;rw[dv1,dv5];clear dv1 dv5 gs1 gs2 gs7 gs8 gs6;have p0:=HQY.o w' hb.o;refine Zab rfl ?_
        go_wp2_with fail
        exact Zaa ⟨_,rfl,đc _ _,rfl⟩
       ·obtain rfl:=đa hi
        have dv1:f' 29 = .bool true:=hdn 1 _ 29 rfl (hl3 1 (by rfl)) rfl;clear hdn hl3;rw[gs6,dv1];clear dv1 gs1 gs2 gs7 gs8 gs6;refine Zab rfl ?_
        go_wp2_with fail
        exact Zaa ⟨_,rfl,đc _ _,rfl⟩
       ·obtain rfl:=đa hi
        have dv1:f' 29 = .bool true:=hdn 1 _ 29 rfl (hl3 1 (by rfl)) rfl;have dv2:f' 30 = .agg #[.slice qo qn qc,.slice mo mn mc,.slice uo un uc]:=hdn 2 _ 30 rfl (hl3 2 (by rfl)) rfl;have dv6:f' 34 = .int .i64 (q:Nat):=hdn 6 _ 34 rfl (hl3 6 (by rfl)) rfl;have dv7:f' 35 = .int .i64 (k:Nat):=hdn 7 _ 35 rfl (hl3 7 (by rfl)) rfl;clear hdn hl3;rw[dv1,dv2,dv6,dv7];clear dv1 dv2 dv6 dv7 gs1 gs2 gs7 gs8 gs6;refine Zab rfl ?_
        go_wp2_with fail
        refine(HHO.o w' hb.o).mono ?_;rintro e w4 ⟨rfl,b4⟩;have HB4:=ħ b4;clear b4
        go_wp2_with fail
        exact Zaa ⟨_,rfl,HB4.o,rfl⟩
       ·obtain rfl:=đa hi
        have dv1:f' 29 = .bool true:=hdn 1 _ 29 rfl (hl3 1 (by rfl)) rfl;have dv8:f' 36 = .bool hb':=hdn 8 _ 36 rfl (hl3 8 (by rfl)) rfl;clear hdn hl3;rw[dv1,dv8];clear dv1 dv8 gs1 gs2 gs7 gs8 gs6;refine Zab rfl ?_
        go_wp2_with fail
        exact Zaa ⟨_,rfl,đc _ _,rfl⟩
      case he =>
       intro listed a' w4 H hsn hall;have hd9:Z37 w.heap.size gq oq ix n lc k qn qc mn mc un uc qo mo uo q hb' 9 w4 (a'.tmps.getD 37 undef):=H.done 9 _ 37 rfl (hall 9 (by decide)) rfl;have hb4:=ħ H.below;have hact:=H.actN hsn [28,29,30,31,32,33,34,35,36,37] (Zej (by kernel_rfl));clear H hall hsn;simp only[List.foldl_cons,List.foldl_nil] at hact;generalize a'.tmps.getD 28 undef=z28 at *;generalize a'.tmps.getD 29 undef=z29 at *;generalize a'.tmps.getD 30 undef=z30 at *;generalize a'.tmps.getD 31 undef=z31 at *;generalize a'.tmps.getD 32 undef=z32 at *;generalize a'.tmps.getD 33 undef=z33 at *;generalize a'.tmps.getD 34 undef=z34 at *;generalize a'.tmps.getD 35 undef=z35 at *;generalize a'.tmps.getD 36 undef=z36 at *;generalize a'.tmps.getD 37 undef=z37 at *;subst hact;have e9:z37 = .bool hb':=hd9;subst e9;clear hd9;simp only[Act.put,List.setIfInBounds_toArray,List.set_cons_succ,List.set_cons_zero];have B7:=ħ (BR.o.trans (hb4.o.mono BR.o.size));have W7:=ħ (WR.o.trans (hb4.o.mono WR.o.size));clear hb4 BR WR HQY HXB HHO;refine Zas (Zab rfl ?_)
       go_wp2_with fail
       refine Zaa (Zbm ?_)
       go_wp2_with fail
       go_roundw
       case rel=>exact⟨ix+1,hb',by go_num,rfl,by omega,ħ (by rw[HNX.o,HFL.o];simp),B7,W7⟩
       case measure=>simp only[intOf];omega
       | false =>
      go_upto_region 11 with(fail)
      refine Za2 10 0 (Z38 w.heap.size gq oq ix n lc k qn qc mn mc un uc qo mo uo q hb') (by kernel_rfl) rfl (Zyq w.heap.size gq oq ix n lc k qn qc mn mc un uc qo mo uo q hb') (Zbr (by kernel_rfl)) (Zeh (by kernel_rfl)) (Zax (by kernel_rfl)) (Zck (by kernel_rfl)) ?hs ?he
      case hs =>
       intro i o hin hi listed a' w' H hsn hl2;have hl3:=Zap hl2;have hb:=ħ H.below;have s1:=hsn 1 (Zak (by kernel_rfl));have s2:=hsn 2 (Zak (by kernel_rfl));have s7:=hsn 7 (Zak (by kernel_rfl));have s8:=hsn 8 (Zak (by kernel_rfl));have s6:=hsn 6 (Zak (by kernel_rfl));have hdn:=H.done;have hdf:=H.defers;have hts:=H.tsize;clear hl2 H hsn;obtain⟨t',df⟩:=a';obtain⟨f',rfl⟩:=Z3u t' hts;have hdf':df=[]:=hdf;subst hdf';have gs1:f' 1 = .slice (some ⟨gq,oq,none⟩) n lc:=s1;have gs2:f' 2 = .pointer (some ⟨w.heap.size,0,none⟩):=s2;have gs7:f' 7 = .bool false:=s7;have gs8:f' 8 = .int .i64 (ix:Nat):=s8;have gs6:f' 6 = .int .i64 (k:Nat):=s6;clear s1 s2 s7 s8 s6;clear hdf hts;have hcases:i=0\/i=1\/i=2\/i=3\/i=4\/i=5\/i=6\/i=7\/i=8\/i=9:=Zdb i hin;clear hin;rcases hcases with rfl | rfl | rfl | rfl | rfl | rfl | rfl | rfl | rfl | rfl
       ·obtain rfl:=đa hi
        clear hdn hl3;rw[gs7];clear gs1 gs2 gs7 gs8 gs6;refine Zab rfl ?_
        go_wp2_with fail
        exact Zaa ⟨_,rfl,đc _ _,rfl⟩
       ·obtain rfl:=đa hi
        have dv0:f' 28 = .bool false:=hdn 0 _ 28 rfl (hl3 0 (by rfl)) rfl;clear hdn hl3;rw[dv0];clear dv0 gs1 gs2 gs7 gs8 gs6;refine Zab rfl ?_
        go_wp2_with fail
        exact Zaa ⟨_,rfl,đc _ _,rfl⟩
       ·obtain rfl:=đa hi
        have dv1:f' 29 = .bool false:=hdn 1 _ 29 rfl (hl3 1 (by rfl)) rfl;clear hdn hl3;rw[gs2,dv1];clear dv1 gs1 gs2 gs7 gs8 gs6;refine Zab rfl ?_
        go_wp2_with fail
        exact Zaa ⟨_,rfl,đc _ _,rfl⟩
       ·obtain rfl:=đa hi
        have dv1:f' 29 = .bool false:=hdn 1 _ 29 rfl (hl3 1 (by rfl)) rfl;clear hdn hl3;rw[gs1,dv1];clear dv1 gs1 gs2 gs7 gs8 gs6;refine Zab rfl ?_
        go_wp2_with fail
        exact Zaa ⟨_,rfl,đc _ _,rfl⟩
       ·obtain rfl:=đa hi
        have dv1:f' 29 = .bool false:=hdn 1 _ 29 rfl (hl3 1 (by rfl)) rfl;clear hdn hl3;rw[gs8,dv1];clear dv1 gs1 gs2 gs7 gs8 gs6;refine Zab rfl ?_
        go_wp2_with fail
        exact Zaa ⟨_,rfl,đc _ _,rfl⟩
       ·obtain rfl:=đa hi
        have dv1:f' 29 = .bool false:=hdn 1 _ 29 rfl (hl3 1 (by rfl)) rfl;have dv3:f' 31=undef:=hdn 3 _ 31 rfl (hl3 3 (by rfl)) rfl;have dv4:f' 32=undef:=hdn 4 _ 32 rfl (hl3 4 (by rfl)) rfl;clear hdn hl3;rw[dv1,dv3,dv4];clear dv1 dv3 dv4 gs1 gs2 gs7 gs8 gs6;refine Zab rfl ?_
        go_wp2_with fail
        exact Zaa ⟨_,rfl,đc _ _,rfl⟩
       ·obtain rfl:=đa hi
        have dv1:f' 29 = .bool false:=hdn 1 _ 29 rfl (hl3 1 (by rfl)) rfl;have dv5:f' 33=undef:=hdn 5 _ 33 rfl (hl3 5 (by rfl)) rfl;clear hdn hl3;rw[dv1,dv5];clear dv1 dv5 gs1 gs2 gs7 gs8 gs6;refine Zab rfl ?_
        go_wp2_with fail
        exact Zaa ⟨_,rfl,đc _ _,rfl⟩
       ·obtain rfl:=đa hi
        have dv1:f' 29 = .bool false:=hdn 1 _ 29 rfl (hl3 1 (by rfl)) rfl;clear hdn hl3;rw[gs6,dv1];clear dv1 gs1 gs2 gs7 gs8 gs6;refine Zab rfl ?_
        go_wp2_with fail
        exact Zaa ⟨_,rfl,đc _ _,rfl⟩
       ·obtain rfl:=đa hi
        have dv1:f' 29 = .bool false:=hdn 1 _ 29 rfl (hl3 1 (by rfl)) rfl;have dv2:f' 30=undef:=hdn 2 _ 30 rfl (hl3 2 (by rfl)) rfl;have dv6:f' 34=undef:=hdn 6 _ 34 rfl (hl3 6 (by rfl)) rfl;have dv7:f' 35=undef:=hdn 7 _ 35 rfl (hl3 7 (by rfl)) rfl;clear hdn hl3;rw[dv1,dv2,dv6,dv7];clear dv1 dv2 dv6 dv7 gs1 gs2 gs7 gs8 gs6;refine Zab rfl ?_
        go_wp2_with fail
        exact Zaa ⟨_,rfl,đc _ _,rfl⟩
       ·obtain rfl:=đa hi
        have dv1:f' 29 = .bool false:=hdn 1 _ 29 rfl (hl3 1 (by rfl)) rfl;have dv8:f' 36=undef:=hdn 8 _ 36 rfl (hl3 8 (by rfl)) rfl;clear hdn hl3;rw[dv1,dv8];clear dv1 dv8 gs1 gs2 gs7 gs8 gs6;refine Zab rfl ?_
        go_wp2_with fail
        exact Zaa ⟨_,rfl,đc _ _,rfl⟩
      case he =>
       intro listed a' w4 H hsn hall;have hd9:Z38 w.heap.size gq oq ix n lc k qn qc mn mc un uc qo mo uo q hb' 9 w4 (a'.tmps.getD 37 undef):=H.done 9 _ 37 rfl (hall 9 (by decide)) rfl;have hb4:=ħ H.below;have hact:=H.actN hsn [28,29,30,31,32,33,34,35,36,37] (Zej (by kernel_rfl));clear H hall hsn;simp only[List.foldl_cons,List.foldl_nil] at hact;generalize a'.tmps.getD 28 undef=z28 at *;generalize a'.tmps.getD 29 undef=z29 at *;generalize a'.tmps.getD 30 undef=z30 at *;generalize a'.tmps.getD 31 undef=z31 at *;generalize a'.tmps.getD 32 undef=z32 at *;generalize a'.tmps.getD 33 undef=z33 at *;generalize a'.tmps.getD 34 undef=z34 at *;generalize a'.tmps.getD 35 undef=z35 at *;generalize a'.tmps.getD 36 undef=z36 at *;generalize a'.tmps.getD 37 undef=z37 at *;subst hact;have e9:z37 = .bool false:=hd9;subst e9;clear hd9;simp only[Act.put,List.setIfInBounds_toArray,List.set_cons_succ,List.set_cons_zero];have B7:=ħ (BR.o.trans (hb4.o.mono BR.o.size));have W7:=ħ (WR.o.trans (hb4.o.mono WR.o.size));clear hb4 BR WR HQY HXB HHO;refine Zas (Zab rfl ?_)
       go_wp2_with fail
       refine Zaa (Zbm ?_)
       go_wp2_with fail
       go_roundw
       case rel=>exact⟨ix+1,false,by go_num,rfl,by omega,ħ (by rw[HNX.o,HFL.o];simp),B7,W7⟩
       case measure=>simp only[intOf];omega
     ·have ii:¬ (ix:Int)<n:=by omega
      have HFA:Hid (l.all (fun q=>Zfk c q k)=f):=ħ (by have:=HFL.o;rwa [List.take_of_length_le (by rw[HLN.o];omega)] at this);have OR:=ħ (OK.o.below WR.o);have XR:=ħ (XK.o.step WR.o);have SR:Hid (w.heap.size+1<=wr.heap.size):=ħ (đo SK.o WR.o.size);have HGK:=ħ (HGD.o k);rw[HFA.o] at HGK
      have hrk:r<=k:=by rw[HRN.o];exact HGL.o k
      clear OK XK SK WR HFL HFA
      cases f with
      | true =>
       have HGN:Hid (G (k+1)=G k++[k]):=ħ (by rw[HGK.o,if_pos rfl]);have HCV:Hid (Za0 (G k)++[.int .i64 (k:Int)]=Za0 (G (k+1))):=ħ (by rw[HGN.o];exact Zbt _ _);have HLR:Hid (r+1=(G (k+1)).length):=ħ (by rw[HGN.o,đn,<- HRN.o];rfl);obtain⟨pr,hpr⟩:∃ l,Za0 (G k)=l:=⟨_,rfl⟩;rw[hpr] at OR HCV;clear hpr
       go_wp2_with (at_builtin;go_loud (refine Zcn 33 3 (.int .i64 0) 1 8 Tryz.underlying33 Zbl rfl (by omega) (by omega) wr (w.heap.size+1) rfl (.tmp 39) (.tmp 41) rfl ro rc r pr ?q1 OR.o SR.o 1 1 #[.int .i64 (k:Int)] 3 ?q2 rfl (by omega) ?q3 ?q4 ?_);(case q1=>rfl);(case q2=>rfl);(case q3=>simp[Value.oneCell']);(case q4=>omega);intro g5 off5 c5 wa o8 gr8 b8 or8;have O9:=ħ o8;have X9:=ħ (XR.o.grownBy gr8 (fun e=>by have h:=(OR.o.blk_lt e).1;omega));have S9:Hid (w.heap.size+1<=wa.heap.size):=ħ (đo SR.o b8.size);have B9:=ħ (BR.o.trans (b8.mono (by omega)));clear o8 gr8 b8 or8)
       go_roundw
       case rel=>exact⟨k+1,r+1,some ⟨g5,off5,none⟩,c5,by go_num,by omega,rfl,HLR,ħ (by rw[<- HCV.o];exact O9.o),B9,X9,S9⟩
       case measure=>simp only[intOf];omega
      | false =>
       have HGN:Hid (G (k+1)=G k):=ħ (by rw[HGK.o];simp)
       go_wp2_with fail
       go_roundw
       case rel=>exact⟨k+1,r,ro,rc,by go_num,by omega,rfl,ħ (by rw[HGN.o];exact HRN.o),ħ (by rw[HGN.o];exact OR.o),BR,XR,SR⟩
       case measure=>simp only[intOf];omega
   ·have kk:¬ (k:Int)<mn:=by omega
    obtain rfl:mn=k:=by omega
    have HLR:Hid (RES.length=r):=ħ (by rw[HRE.o];exact HRN.o.symm)
    go_wp2_with fail
    go_ret;exact⟨⟨ro,rc,by rw[HLR.o];rfl,by rw[HLR.o,HRE.o];exact OK.o.lower (by omega)⟩,BK.o⟩
theorem Zuh(w:World)(c:Crw)(cs:List Value)(l:List Int)(lo:Option Addr)(lc:Nat)(ha:ArgR w c cs)(hl:Zan Zbg w lo l)(hll:l.length<=1000) :
  Calls Tryz.prog 45 #[.agg cs.toArray,.slice lo l.length lc] w fun e w'=>e = .returned (.tuple #[.int .i64 ((Zif c l:Nat):Int),.bool (Zcz c l)])/\Below w.heap.size w w':=by
 have HRE:Hid (Zif c l=if Zcz c l=true then(List.range c.ms.length).countP (Zxn c l) else 0):=ħ rfl;generalize Zif c l=RES at *
 have HCN:Hid (∀ k,(List.range (k+1)).countP (Zxn c l)=(List.range k).countP (Zxn c l)+(if l.any (fun q=>Zfk c q k)=true then 1 else 0)):=ħ (fun k=>by
  rw[List.range_succ,List.countP_append,List.countP_cons,List.countP_nil,Nat.zero_add];rfl)
 have HCL:Hid (∀ k,(List.range k).countP (Zxn c l)<=k):=ħ (fun k=>by have:=List.countP_le_length (p:=Zxn c l) (l:=List.range k);rwa [List.length_range] at this);obtain⟨G,hG⟩:∃ g:Nat->Nat,(fun i=>(List.range i).countP (Zxn c l))=g:=⟨_,rfl⟩;have HG0:Hid (G 0=0):=ħ (by rw[<- hG];rfl);have HGD:Hid (∀ k,G (k+1)=G k+(if l.any (fun q=>Zfk c q k)=true then 1 else 0)):=ħ (by rw[<- hG];exact HCN.o);have HGL:Hid (∀ i,G i<=i):=ħ (by rw[<- hG];exact HCL.o);have HRE:Hid (RES=if Zcz c l=true then G c.ms.length else 0):=ħ (by rw[<- hG];exact HRE.o);clear hG HCN HCL;have HAK:=ħ (fun W (hW:Below w.heap.size w W)=>Zmi W c cs l lo lc (ha.below hW) (hl.below hW) hll);have HHL:=ħ (fun(hv:Zal c=true) W (hW:Below w.heap.size w W) q k (hq:q<c.qs.length) (hk:k<c.ms.length)=>Zpj W c cs (ha.below hW) hv q k hq hk);have HLW:=ħ (fun W (hW:Below w.heap.size w W)=>hl.below hW)
 have HVA:Hid (Zcz c l=true->Zal c=true/\∀ i q,l[i]?=some q->∃ j:Nat,q=(j:Int)/\j<c.qs.length):=ħ (fun h=>by
  rw[Zkg,đi,List.all_eq_true] at h
  exact⟨h.2,fun i q hq=>Zbx (h.1 q (đe hq))⟩)
 have hqn:=ha.ok.nq;have hmn:=ha.ok.nm;obtain⟨qo,qc,mo,mc,uo,uc,rfl,-,-⟩:=Zd7 ha.crw;clear ha hl;generalize hak:Zcz c l=ak at *;clear hak;generalize Zal c=vc at *;generalize c.qs.length=qn at *;generalize c.ms.length=mn at *;generalize c.us.length=un at *;obtain⟨n,hn⟩:∃ n,l.length=n:=⟨_,rfl⟩;rw[hn] at hll HAK ⊢;have HLN:=ħ hn;clear hn;have X5:Hid (Zae (w.alloc (.cells #[.slice qo qn qc,.slice mo mn mc,.slice uo un uc] 26)) w.heap.size 26 [.slice qo qn qc,.slice mo mn mc,.slice uo un uc]):=ħ (heap_alloc_new w _);have B5:=ħ ((đc w.heap.size w).alloc (đd _) (.cells #[.slice qo qn qc,.slice mo mn mc,.slice uo un uc] 26))
 go_enter Tryz.func45,Tryz.ntmps45
 go_upto_region 1 with(fail)
 generalize w.alloc (.cells #[.slice qo qn qc,.slice mo mn mc,.slice uo un uc] 26)=w5 at *
 go_wp2_with (refine wpList_load_row rfl 26 (.tmp 2) rfl (w.heap.size) ?x1 26 #[.slice qo qn qc,.slice mo mn mc,.slice uo un uc] (0,0) _ X5.o Tryz.underlying26 rfl (Zbf _ _ _) ?_;(case x1=>rfl))
 refine(HAK.o w5 B5.o).mono ?_;rintro e w6 ⟨rfl,b6⟩;have X6:=ħ (X5.o.step b6);have B6:=ħ (B5.o.trans (b6.mono B5.o.size));clear b6 X5 B5 HAK
 cases ak with
 | false =>
  have HE:Hid (RES=0):=ħ (by rw[HRE.o];rfl)
  go_wp2_with fail
  go_ret2
  exact⟨by rw[HE.o];rfl,B6.o⟩
 | true =>
  obtain⟨hv1,hv2⟩:=HVA.o rfl;have HHL:=ħ (fun W (hW:Below w.heap.size w W) q k hq hk=>HHL.o hv1 W hW q k hq hk);have HQJ:=ħ hv2;have HRE:Hid (RES=G mn):=ħ (by rw[HRE.o];rfl);clear HVA hv1 hv2
  go_upto_region 5 with(fail)
  go_loopw [6,7] (fun av kv wr=>∃ (k r:Nat),kv = .int .i64 k/\k<=mn/\av = .int .i64 r/\Hid (r=G k)/\Hid (Below w.heap.size w wr)/\Hid (Zae wr w.heap.size 26 [.slice qo qn qc,.slice mo mn mc,.slice uo un uc])) (fun _ k _=>(mn-intOf k).toNat)
  case atStart=>exact⟨0,0,rfl,by omega,rfl,ħ HG0.o.symm,B6,X6⟩
  case round =>
   clear B6 X6;obtain⟨k,r,rfl,hk,rfl,HRN,BK,XK⟩:=hrel;have e3:IntKind.i64.wrap ((k:Int)+1)=((k+1:Nat):Int):=đh _ (by omega);have c1:=XK.o.cell 1 _ rfl;by_cases hkm:k<mn
   ·have kk:(k:Int)<mn:=by omega
    go_upto_region 9 with(fail)
    clear c1;generalize wr=wo at *
    go_loopw [8,9] (fun fv iv wr=>∃ (ix:Nat) (f:Bool),iv = .int .i64 ix/\fv = .bool f/\ix<=n/\Hid ((l.take ix).any (fun q=>Zfk c q k)=f)/\Hid (Below w.heap.size w wr)/\Hid (Below wo.heap.size wo wr)) (fun _ i _=>(n-intOf i).toNat)
    case atStart=>exact⟨0,false,rfl,rfl,by omega,ħ (by simp),BK,ħ (đc _ _)⟩
    case round =>
     obtain⟨ix,f,rfl,rfl,hi,HFL,BR,WR⟩:=hrel;have e2:IntKind.i64.wrap ((ix:Int)+1)=((ix+1:Nat):Int):=đh _ (by omega);by_cases hin:ix<n
     ·have ii:(ix:Int)<n:=by omega
      have HII:=ħ ii;obtain⟨q0,hq0⟩:∃ q,l[ix]?=some q:=⟨_,đb (by rw[HLN.o];exact hin)⟩;obtain⟨q,rfl,hql⟩:=HQJ.o ix q0 hq0;have HNX:=ħ (Zyu (f:=fun q=>Zfk c q k) hq0);obtain⟨gq,oq,hlo,hgq,hcc⟩:=(HLW.o wr BR.o).at Zaz ix (q:Int) hq0;have y0:=hcc 0 _ rfl;rw[Nat.mul_one,Nat.add_zero] at y0;have HQY:=ħ (fun W (hW:Below wr.heap.size wr W)=>(hW.cell (p:=⟨gq,oq+ix,none⟩) hgq).trans y0);have HXB:=ħ (fun W (hW:Below wr.heap.size wr W)=>XK.o.step (WR.o.trans (hW.mono WR.o.size)));have HHO:=ħ (fun W (hW:Below wr.heap.size wr W)=>HHL.o W (BR.o.trans (hW.mono BR.o.size)) q k hql hkm);obtain⟨hb',hbb⟩:∃ b,Zfk c (q:Int) k=b:=⟨_,rfl⟩;have HNX:Hid ((l.take (ix+1)).any (fun q=>Zfk c q k)=((l.take ix).any (fun q=>Zfk c q k)||hb')):=ħ (by rw[<- hbb];exact HNX.o);rw[hbb] at HHO;clear hbb hq0 hcc y0 hgq;subst hlo
      cases f with
      | false =>
      go_upto_region 11 with(fail)
      refine Za2 10 0 (Z39 w.heap.size gq oq ix n lc k qn qc mn mc un uc qo mo uo q hb') (by kernel_rfl) rfl (Zyr w.heap.size gq oq ix n lc k qn qc mn mc un uc qo mo uo q hb') (Zbr (by kernel_rfl)) (Zeh (by kernel_rfl)) (Zax (by kernel_rfl)) (Zck (by kernel_rfl)) ?hs ?he
      case hs =>
       intro i o hin hi listed a' w' H hsn hl2;have hl3:=Zap hl2;have hb:=ħ H.below;have s1:=hsn 1 (Zak (by kernel_rfl));have s2:=hsn 2 (Zak (by kernel_rfl));have s8:=hsn 8 (Zak (by kernel_rfl));have s9:=hsn 9 (Zak (by kernel_rfl));have s7:=hsn 7 (Zak (by kernel_rfl));have hdn:=H.done;have hdf:=H.defers;have hts:=H.tsize;clear hl2 H hsn;obtain⟨t',df⟩:=a';obtain⟨f',rfl⟩:=Z3v t' hts;have hdf':df=[]:=hdf;subst hdf';have gs1:f' 1 = .slice (some ⟨gq,oq,none⟩) n lc:=s1;have gs2:f' 2 = .pointer (some ⟨w.heap.size,0,none⟩):=s2;have gs8:f' 8 = .bool false:=s8;have gs9:f' 9 = .int .i64 (ix:Nat):=s9;have gs7:f' 7 = .int .i64 (k:Nat):=s7;clear s1 s2 s8 s9 s7;clear hdf hts;have hcases:i=0\/i=1\/i=2\/i=3\/i=4\/i=5\/i=6\/i=7\/i=8\/i=9:=Zdb i hin;clear hin;rcases hcases with rfl | rfl | rfl | rfl | rfl | rfl | rfl | rfl | rfl | rfl
       ·obtain rfl:=đa hi
        clear hdn hl3;rw[gs8];clear gs1 gs2 gs8 gs9 gs7;refine Zab rfl ?_
        go_wp2_with fail
        exact Zaa ⟨_,rfl,đc _ _,rfl⟩
       ·obtain rfl:=đa hi
        have dv0:f' 27 = .bool false:=hdn 0 _ 27 rfl (hl3 0 (by rfl)) rfl;clear hdn hl3;rw[dv0];clear dv0 gs1 gs2 gs8 gs9 gs7;refine Zab rfl ?_
        go_wp2_with fail
        exact Zaa ⟨_,rfl,đc _ _,rfl⟩
       ·obtain rfl:=đa hi
        have dv1:f' 28 = .bool false:=hdn 1 _ 28 rfl (hl3 1 (by rfl)) rfl;clear hdn hl3;rw[gs2,dv1];clear dv1 gs1 gs2 gs8 gs9 gs7;have hx:=HXB.o w' hb.o;have c0:=hx.cell 0 _ rfl;have c1:=hx.cell 1 _ rfl;have c2:=hx.cell 2 _ rfl;clear hx;refine Zab rfl ?_
        go_wp2_with fail
        exact Zaa ⟨_,rfl,đc _ _,rfl⟩
       ·obtain rfl:=đa hi
        have dv1:f' 28 = .bool false:=hdn 1 _ 28 rfl (hl3 1 (by rfl)) rfl;clear hdn hl3;rw[gs1,dv1];clear dv1 gs1 gs2 gs8 gs9 gs7;refine Zab rfl ?_
        go_wp2_with fail
        exact Zaa ⟨_,rfl,đc _ _,rfl⟩
       ·obtain rfl:=đa hi
        have dv1:f' 28 = .bool false:=hdn 1 _ 28 rfl (hl3 1 (by rfl)) rfl;clear hdn hl3;rw[gs9,dv1];clear dv1 gs1 gs2 gs8 gs9 gs7;refine Zab rfl ?_
        go_wp2_with fail
        exact Zaa ⟨_,rfl,đc _ _,rfl⟩
       ·obtain rfl:=đa hi
        have dv1:f' 28 = .bool false:=hdn 1 _ 28 rfl (hl3 1 (by rfl)) rfl;have dv3:f' 30 = .slice (some ⟨gq,oq,none⟩) n lc:=hdn 3 _ 30 rfl (hl3 3 (by rfl)) rfl;have dv4:f' 31 = .int .i64 (ix:Nat):=hdn 4 _ 31 rfl (hl3 4 (by rfl)) rfl;clear hdn hl3;rw[dv1,dv3,dv4];clear dv1 dv3 dv4 gs1 gs2 gs8 gs9 gs7;have ii:=HII.o;refine Zab rfl ?_
        go_wp2_with fail
        exact Zaa ⟨_,rfl,đc _ _,rfl⟩
       ·obtain rfl:=đa hi
        have dv1:f' 28 = .bool false:=hdn 1 _ 28 rfl (hl3 1 (by rfl)) rfl;have dv5:f' 32 = .pointer (some ⟨gq,oq+ix,none⟩):=hdn 5 _ 32 rfl (hl3 5 (by rfl)) rfl;clear hdn hl3;rw[dv1,dv5];clear dv1 dv5 gs1 gs2 gs8 gs9 gs7;have p0:=HQY.o w' hb.o;refine Zab rfl ?_
        go_wp2_with fail
        exact Zaa ⟨_,rfl,đc _ _,rfl⟩
       ·obtain rfl:=đa hi
        have dv1:f' 28 = .bool false:=hdn 1 _ 28 rfl (hl3 1 (by rfl)) rfl;clear hdn hl3;rw[gs7,dv1];clear dv1 gs1 gs2 gs8 gs9 gs7;refine Zab rfl ?_
        go_wp2_with fail
        exact Zaa ⟨_,rfl,đc _ _,rfl⟩
       ·obtain rfl:=đa hi
        have dv1:f' 28 = .bool false:=hdn 1 _ 28 rfl (hl3 1 (by rfl)) rfl;have dv2:f' 29 = .agg #[.slice qo qn qc,.slice mo mn mc,.slice uo un uc]:=hdn 2 _ 29 rfl (hl3 2 (by rfl)) rfl;have dv6:f' 33 = .int .i64 (q:Nat):=hdn 6 _ 33 rfl (hl3 6 (by rfl)) rfl;have dv7:f' 34 = .int .i64 (k:Nat):=hdn 7 _ 34 rfl (hl3 7 (by rfl)) rfl;clear hdn hl3;rw[dv1,dv2,dv6,dv7];clear dv1 dv2 dv6 dv7 gs1 gs2 gs8 gs9 gs7;refine Zab rfl ?_
        go_wp2_with fail
        refine(HHO.o w' hb.o).mono ?_;rintro e w4 ⟨rfl,b4⟩;have HB4:=ħ b4;clear b4
        go_wp2_with fail
        exact Zaa ⟨_,rfl,HB4.o,rfl⟩
       ·obtain rfl:=đa hi
        have dv1:f' 28 = .bool false:=hdn 1 _ 28 rfl (hl3 1 (by rfl)) rfl;have dv8:f' 35 = .bool hb':=hdn 8 _ 35 rfl (hl3 8 (by rfl)) rfl;clear hdn hl3;rw[dv1,dv8];clear dv1 dv8 gs1 gs2 gs8 gs9 gs7;refine Zab rfl ?_
        go_wp2_with fail
        exact Zaa ⟨_,rfl,đc _ _,rfl⟩
      case he =>
       intro listed a' w4 H hsn hall;have hd9:Z39 w.heap.size gq oq ix n lc k qn qc mn mc un uc qo mo uo q hb' 9 w4 (a'.tmps.getD 36 undef):=H.done 9 _ 36 rfl (hall 9 (by decide)) rfl;have hb4:=ħ H.below;have hact:=H.actN hsn [27,28,29,30,31,32,33,34,35,36] (Zej (by kernel_rfl));clear H hall hsn;simp only[List.foldl_cons,List.foldl_nil] at hact;generalize a'.tmps.getD 27 undef=z27 at *;generalize a'.tmps.getD 28 undef=z28 at *;generalize a'.tmps.getD 29 undef=z29 at *;generalize a'.tmps.getD 30 undef=z30 at *;generalize a'.tmps.getD 31 undef=z31 at *;generalize a'.tmps.getD 32 undef=z32 at *;generalize a'.tmps.getD 33 undef=z33 at *;generalize a'.tmps.getD 34 undef=z34 at *;generalize a'.tmps.getD 35 undef=z35 at *;generalize a'.tmps.getD 36 undef=z36 at *;subst hact;have e9:z36 = .bool hb':=hd9;subst e9;clear hd9;simp only[Act.put,List.setIfInBounds_toArray,List.set_cons_succ,List.set_cons_zero];have B7:=ħ (BR.o.trans (hb4.o.mono BR.o.size));have W7:=ħ (WR.o.trans (hb4.o.mono WR.o.size));clear hb4 BR WR HQY HXB HHO;refine Zas (Zab rfl ?_)
       go_wp2_with fail
       refine Zaa (Zbm ?_)
       go_wp2_with fail
       go_roundw
       case rel=>exact⟨ix+1,hb',by go_num,rfl,by omega,ħ (by rw[HNX.o,HFL.o];simp),B7,W7⟩
       case measure=>simp only[intOf];omega
      | true =>
      go_upto_region 11 with(fail)
      refine Za2 10 0 (Z4a w.heap.size gq oq ix n lc k qn qc mn mc un uc qo mo uo q hb') (by kernel_rfl) rfl (Zys w.heap.size gq oq ix n lc k qn qc mn mc un uc qo mo uo q hb') (Zbr (by kernel_rfl)) (Zeh (by kernel_rfl)) (Zax (by kernel_rfl)) (Zck (by kernel_rfl)) ?hs ?he
      case hs =>
       intro i o hin hi listed a' w' H hsn hl2;have hl3:=Zap hl2;have hb:=ħ H.below;have s1:=hsn 1 (Zak (by kernel_rfl));have s2:=hsn 2 (Zak (by kernel_rfl));have s8:=hsn 8 (Zak (by kernel_rfl));have s9:=hsn 9 (Zak (by kernel_rfl));have s7:=hsn 7 (Zak (by kernel_rfl));have hdn:=H.done;have hdf:=H.defers;have hts:=H.tsize;clear hl2 H hsn;obtain⟨t',df⟩:=a';obtain⟨f',rfl⟩:=Z3v t' hts;have hdf':df=[]:=hdf;subst hdf';have gs1:f' 1 = .slice (some ⟨gq,oq,none⟩) n lc:=s1;have gs2:f' 2 = .pointer (some ⟨w.heap.size,0,none⟩):=s2;have gs8:f' 8 = .bool true:=s8;have gs9:f' 9 = .int .i64 (ix:Nat):=s9;have gs7:f' 7 = .int .i64 (k:Nat):=s7;clear s1 s2 s8 s9 s7;clear hdf hts;have hcases:i=0\/i=1\/i=2\/i=3\/i=4\/i=5\/i=6\/i=7\/i=8\/i=9:=Zdb i hin;clear hin;rcases hcases with rfl | rfl | rfl | rfl | rfl | rfl | rfl | rfl | rfl | rfl
       ·obtain rfl:=đa hi
        clear hdn hl3;rw[gs8];clear gs1 gs2 gs8 gs9 gs7;refine Zab rfl ?_
        go_wp2_with fail
        exact Zaa ⟨_,rfl,đc _ _,rfl⟩
       ·obtain rfl:=đa hi
        have dv0:f' 27 = .bool true:=hdn 0 _ 27 rfl (hl3 0 (by rfl)) rfl;clear hdn hl3;rw[dv0];clear dv0 gs1 gs2 gs8 gs9 gs7;refine Zab rfl ?_
        go_wp2_with fail
        exact Zaa ⟨_,rfl,đc _ _,rfl⟩
       ·obtain rfl:=đa hi
        have dv1:f' 28 = .bool true:=hdn 1 _ 28 rfl (hl3 1 (by rfl)) rfl;clear hdn hl3;rw[gs2,dv1];clear dv1 gs1 gs2 gs8 gs9 gs7;refine Zab rfl ?_
        go_wp2_with fail
        exact Zaa ⟨_,rfl,đc _ _,rfl⟩
       ·obtain rfl:=đa hi
        have dv1:f' 28 = .bool true:=hdn 1 _ 28 rfl (hl3 1 (by rfl)) rfl;clear hdn hl3;rw[gs1,dv1];clear dv1 gs1 gs2 gs8 gs9 gs7;refine Zab rfl ?_
        go_wp2_with fail
        exact Zaa ⟨_,rfl,đc _ _,rfl⟩
       ·obtain rfl:=đa hi
        have dv1:f' 28 = .bool true:=hdn 1 _ 28 rfl (hl3 1 (by rfl)) rfl;clear hdn hl3;rw[gs9,dv1];clear dv1 gs1 gs2 gs8 gs9 gs7;refine Zab rfl ?_
        go_wp2_with fail
        exact Zaa ⟨_,rfl,đc _ _,rfl⟩
       ·obtain rfl:=đa hi
        have dv1:f' 28 = .bool true:=hdn 1 _ 28 rfl (hl3 1 (by rfl)) rfl;have dv3:f' 30=undef:=hdn 3 _ 30 rfl (hl3 3 (by rfl)) rfl;have dv4:f' 31=undef:=hdn 4 _ 31 rfl (hl3 4 (by rfl)) rfl;clear hdn hl3;rw[dv1,dv3,dv4];clear dv1 dv3 dv4 gs1 gs2 gs8 gs9 gs7;refine Zab rfl ?_
        go_wp2_with fail
        exact Zaa ⟨_,rfl,đc _ _,rfl⟩
       ·obtain rfl:=đa hi
        have dv1:f' 28 = .bool true:=hdn 1 _ 28 rfl (hl3 1 (by rfl)) rfl;have dv5:f' 32=undef:=hdn 5 _ 32 rfl (hl3 5 (by rfl)) rfl;clear hdn hl3;rw[dv1,dv5];clear dv1 dv5 gs1 gs2 gs8 gs9 gs7;refine Zab rfl ?_
        go_wp2_with fail
        exact Zaa ⟨_,rfl,đc _ _,rfl⟩
       ·obtain rfl:=đa hi
        have dv1:f' 28 = .bool true:=hdn 1 _ 28 rfl (hl3 1 (by rfl)) rfl;clear hdn hl3;rw[gs7,dv1];clear dv1 gs1 gs2 gs8 gs9 gs7;refine Zab rfl ?_
        go_wp2_with fail
        exact Zaa ⟨_,rfl,đc _ _,rfl⟩
       ·obtain rfl:=đa hi
        have dv1:f' 28 = .bool true:=hdn 1 _ 28 rfl (hl3 1 (by rfl)) rfl;have dv2:f' 29=undef:=hdn 2 _ 29 rfl (hl3 2 (by rfl)) rfl;have dv6:f' 33=undef:=hdn 6 _ 33 rfl (hl3 6 (by rfl)) rfl;have dv7:f' 34=undef:=hdn 7 _ 34 rfl (hl3 7 (by rfl)) rfl;clear hdn hl3;rw[dv1,dv2,dv6,dv7];clear dv1 dv2 dv6 dv7 gs1 gs2 gs8 gs9 gs7;refine Zab rfl ?_
        go_wp2_with fail
        exact Zaa ⟨_,rfl,đc _ _,rfl⟩
       ·obtain rfl:=đa hi
        have dv1:f' 28 = .bool true:=hdn 1 _ 28 rfl (hl3 1 (by rfl)) rfl;have dv8:f' 35=undef:=hdn 8 _ 35 rfl (hl3 8 (by rfl)) rfl;clear hdn hl3;rw[dv1,dv8];clear dv1 dv8 gs1 gs2 gs8 gs9 gs7;refine Zab rfl ?_
        go_wp2_with fail
        exact Zaa ⟨_,rfl,đc _ _,rfl⟩
      case he =>
       intro listed a' w4 H hsn hall;have hd9:Z4a w.heap.size gq oq ix n lc k qn qc mn mc un uc qo mo uo q hb' 9 w4 (a'.tmps.getD 36 undef):=H.done 9 _ 36 rfl (hall 9 (by decide)) rfl;have hb4:=ħ H.below;have hact:=H.actN hsn [27,28,29,30,31,32,33,34,35,36] (Zej (by kernel_rfl));clear H hall hsn;simp only[List.foldl_cons,List.foldl_nil] at hact;generalize a'.tmps.getD 27 undef=z27 at *;generalize a'.tmps.getD 28 undef=z28 at *;generalize a'.tmps.getD 29 undef=z29 at *;generalize a'.tmps.getD 30 undef=z30 at *;generalize a'.tmps.getD 31 undef=z31 at *;generalize a'.tmps.getD 32 undef=z32 at *;generalize a'.tmps.getD 33 undef=z33 at *;generalize a'.tmps.getD 34 undef=z34 at *;generalize a'.tmps.getD 35 undef=z35 at *;generalize a'.tmps.getD 36 undef=z36 at *;subst hact;have e9:z36 = .bool true:=hd9;subst e9;clear hd9;simp only[Act.put,List.setIfInBounds_toArray,List.set_cons_succ,List.set_cons_zero];have B7:=ħ (BR.o.trans (hb4.o.mono BR.o.size));have W7:=ħ (WR.o.trans (hb4.o.mono WR.o.size));clear hb4 BR WR HQY HXB HHO;refine Zas (Zab rfl ?_)
       go_wp2_with fail
       refine Zaa (Zbm ?_)
       go_wp2_with fail
       go_roundw
       case rel=>exact⟨ix+1,true,by go_num,rfl,by omega,ħ (by rw[HNX.o,HFL.o];simp),B7,W7⟩
       case measure=>simp only[intOf];omega
     ·have ii:¬ (ix:Int)<n:=by omega
      have HFA:Hid (l.any (fun q=>Zfk c q k)=f):=ħ (by have:=HFL.o;rwa [List.take_of_length_le (by rw[HLN.o];omega)] at this);have XR:=ħ (XK.o.step WR.o);have HGK:=ħ (HGD.o k);rw[HFA.o] at HGK
      have hrk:r<=k:=by rw[HRN.o];exact HGL.o k
      clear XK WR HFL HFA
      cases f with
      | true =>
       have HGN:Hid (r+1=G (k+1)):=ħ (by rw[HGK.o,if_pos rfl,HRN.o])
       go_wp2_with fail
       go_roundw
       case rel=>exact⟨k+1,r+1,by go_num,by omega,by go_num,HGN,BR,XR⟩
       case measure=>simp only[intOf];omega
      | false =>
       have HGN:Hid (r=G (k+1)):=ħ (by rw[HGK.o,HRN.o];simp)
       go_wp2_with fail
       go_roundw
       case rel=>exact⟨k+1,r,by go_num,by omega,rfl,HGN,BR,XR⟩
       case measure=>simp only[intOf];omega
   ·have kk:¬ (k:Int)<mn:=by omega
    obtain rfl:mn=k:=by omega
    have HLR:Hid (RES=r):=ħ (by rw[HRE.o];exact HRN.o.symm)
    go_wp2_with fail
    go_ret2
    exact⟨by rw[HLR.o];rfl,BK.o⟩
end
end Go.Proofs.YtbcgocpihobjnaaGreatDoor
set_option linter.all false
set_option maxHeartbeats 32000000
set_option maxRecDepth 100000
namespace Go.Proofs.YtbcgocpihobjnaaGreatDoor
open Go.RowKit Go.Sort Go.Maps
theorem Z2z{c:Crw}(hf:Z2w c=true):∀ m∈c.ms,m.b.length<=1000/\m.t.length<=1000:=by
 unfold Z2w at hf;simp only[đi,List.all_eq_true] at hf;intro m hm;have h:=hf.2 m hm;unfold Zuv at h;simp only[đi,decide_eq_true_eq] at h;omega
theorem Zuj(c:Crw)(u:Int):(Zci c u).1.length<=c.ms.length:=by
 unfold Zci;split
 ·split
  ·simp
  ·exact Nat.zero_le _
 ·exact Nat.zero_le _
theorem Z1d(c:Crw)(l:List Int):(Zfj c l).length<=c.ms.length:=by
 unfold Zfj;split
 ·exact Zb1 _ _
 ·exact Nat.zero_le _
theorem Z3w(t:Array Value)(h:t.size=104):∃ f:Nat->Value,t=#[f 0,f 1,f 2,f 3,f 4,f 5,f 6,f 7,f 8,f 9,f 10,f 11,f 12,f 13,f 14,f 15,f 16,f 17,f 18,f 19,f 20,f 21,f 22,f 23,f 24,f 25,f 26,f 27,f 28,f 29,f 30,f 31,f 32,f 33,f 34,f 35,f 36,f 37,f 38,f 39,f 40,f 41,f 42,f 43,f 44,f 45,f 46,f 47,f 48,f 49,f 50,f 51,f 52,f 53,f 54,f 55,f 56,f 57,f 58,f 59,f 60,f 61,f 62,f 63,f 64,f 65,f 66,f 67,f 68,f 69,f 70,f 71,f 72,f 73,f 74,f 75,f 76,f 77,f 78,f 79,f 80,f 81,f 82,f 83,f 84,f 85,f 86,f 87,f 88,f 89,f 90,f 91,f 92,f 93,f 94,f 95,f 96,f 97,f 98,f 99,f 100,f 101,f 102,f 103]:=by
 obtain⟨l⟩:=t;have hl:l.length=104:=h
 have e:l=(List.range 104).map (fun i=>l.getD i undef):=by
  apply List.ext_getElem
  ·simp[hl]
  ·intro i h1 h2
   simp[List.getD,h1]
 exact⟨fun i=>l.getD i undef,congrArg List.toArray e⟩
theorem Zuk(i:Nat)(h:i<41):i=0\/i=1\/i=2\/i=3\/i=4\/i=5\/i=6\/i=7\/i=8\/i=9\/i=10\/i=11\/i=12\/i=13\/i=14\/i=15\/i=16\/i=17\/i=18\/i=19\/i=20\/i=21\/i=22\/i=23\/i=24\/i=25\/i=26\/i=27\/i=28\/i=29\/i=30\/i=31\/i=32\/i=33\/i=34\/i=35\/i=36\/i=37\/i=38\/i=39\/i=40:=by omega
def Zul(CB qn qc mn mc un uc an ac bc n lc cl n1 e1 g1 u1:Nat)(qo mo uo ao bo lo:Option Addr)(CL:List Int)(k1:Bool)(i:Nat)(W:World)(v:Value):Prop:=match i with
 | 0=>v = .bool true
 | 1=>v = .bool true
 | 2=>v = .int .i64 (n1:Nat)
 | 3=>v = .int .i64 (n1:Nat)
 | 4=>v = .bool true
 | 5=>v = .bool true
 | 6=>v = .bool true
 | 7=>v = .int .i64 (e1:Nat)
 | 8=>v = .int .i64 (e1:Nat)
 | 9=>v = .bool true
 | 10=>v = .bool true
 | 11=>v = .bool true
 | 12=>v = .int .i64 (g1:Nat)
 | 13=>v = .int .i64 (g1:Nat)
 | 14=>v = .bool true
 | 15=>v = .bool true
 | 16=>v = .bool true
 | 17=>v = .slice ao an ac
 | 18=>v = .slice bo an bc
 | 19=>v = .bool true
 | 20=>v = .bool true
 | 21=>v = .bool true
 | 22=>v = .int .i64 (u1:Nat)
 | 23=>v = .int .i64 (u1:Nat)
 | 24=>v = .bool true
 | 25=>v = .bool true
 | 26=>v = .bool true
 | 27=>v = .bool k1
 | 28=>v = .bool k1
 | 29=>v = .bool true
 | 30=>v = .bool true
 | 31=>v = .bool true
 | 32=>v = .agg #[.slice qo qn qc,.slice mo mn mc,.slice uo un uc]
 | 33=>v = .slice lo n lc
 | 34=>∃ o cap,v = .slice o cl cap/\Zan Zbg W o CL
 | 35=>v = .agg #[.slice qo qn qc,.slice mo mn mc,.slice uo un uc]
 | 36=>v = .slice lo n lc
 | 37=>∃ o cap,v = .slice o cl cap/\Zan Zbg W o CL
 | 38=>v = .bool true
 | 39=>v = .bool true
 | 40=>v = .bool true
 | _=>True
theorem Zum(CB qn qc mn mc un uc an ac bc n lc cl n1 e1 g1 u1:Nat)(qo mo uo ao bo lo:Option Addr)(CL:List Int)(k1:Bool):∀ i w w' v,Zul CB qn qc mn mc un uc an ac bc n lc cl n1 e1 g1 u1 qo mo uo ao bo lo CL k1 i w v->Below w.heap.size w w'->Zul CB qn qc mn mc un uc an ac bc n lc cl n1 e1 g1 u1 qo mo uo ao bo lo CL k1 i w' v:=by
 intro i w w' v h hb
 match i with
 | 0=>exact h
 | 1=>exact h
 | 2=>exact h
 | 3=>exact h
 | 4=>exact h
 | 5=>exact h
 | 6=>exact h
 | 7=>exact h
 | 8=>exact h
 | 9=>exact h
 | 10=>exact h
 | 11=>exact h
 | 12=>exact h
 | 13=>exact h
 | 14=>exact h
 | 15=>exact h
 | 16=>exact h
 | 17=>exact h
 | 18=>exact h
 | 19=>exact h
 | 20=>exact h
 | 21=>exact h
 | 22=>exact h
 | 23=>exact h
 | 24=>exact h
 | 25=>exact h
 | 26=>exact h
 | 27=>exact h
 | 28=>exact h
 | 29=>exact h
 | 30=>exact h
 | 31=>exact h
 | 32=>exact h
 | 33=>exact h
 | 34=>obtain⟨o,cap,h1,h2⟩:=h;exact⟨o,cap,h1,h2.below hb⟩
 | 35=>exact h
 | 36=>exact h
 | 37=>obtain⟨o,cap,h1,h2⟩:=h;exact⟨o,cap,h1,h2.below hb⟩
 | 38=>exact h
 | 39=>exact h
 | 40=>exact h
 | k+41=>trivial
theorem Zqx(w:World)(c:Crw)(cs:List Value)(B:Nat)(u:Int)(l:List Int)(lo:Option Addr)(lc:Nat)(hcw:Zhs w c cs)(hG:Tab w B)(hL:LenC c)(hby:∀ p∈c.qs,ByL p)(hnm:∀ m∈c.ms,∀ b∈m.b,NmL b.n)(hl:Zan Zbg w lo l)(hll:l.length<=9223372036854775807) :
  Calls Tryz.prog 10 #[.agg cs.toArray,.int .i64 u,.slice lo l.length lc] w fun e w'=>e = .returned (.bool true)/\Below w.heap.size w w':=by
 have HLW:=ħ (fun W (hW:Below w.heap.size w W)=>hl.below hW);have HLQ:=ħ hL.q;have HFB:=ħ (fun hf=>Z2z (c:=c) hf);have HTB:=ħ (fun W (hW:Below w.heap.size w W)=>Zbw.step (w:=w) hG hW);have HCW:=ħ (fun W (hW:Below w.heap.size w W)=>hcw.below hW);have HFK:=ħ (fun hf=>Z2x (c:=c) hf hL hby hnm);have HFW:=ħ (fun W (hW:Below w.heap.size w W)=>Z02 W c cs (hcw.below hW) hL);have hun:=hL.nu;have hmn:=hL.nm;have hqn:=hL.nq;obtain⟨qo,qc,mo,mc,uo,uc,rfl,-⟩:=hcw;clear hL hby hnm hG hl;generalize hqe:c.qs.length=qn at *;generalize hme:c.ms.length=mn at *;generalize hue:c.us.length=un at *;have HUE:=ħ hue;have HME:=ħ hme;have HQE:=ħ hqe;clear hue hme hqe;have X1:Hid (Zae (w.alloc (.cells #[.slice qo qn qc,.slice mo mn mc,.slice uo un uc] 26)) w.heap.size 26 [.slice qo qn qc,.slice mo mn mc,.slice uo un uc]):=ħ (heap_alloc_new w _);have B1:=ħ ((đc w.heap.size w).alloc (đd _) (.cells #[.slice qo qn qc,.slice mo mn mc,.slice uo un uc] 26))
 go_enter Tryz.func10,Tryz.ntmps10
 go_upto_region 1 with(fail)
 generalize w.alloc (.cells #[.slice qo qn qc,.slice mo mn mc,.slice uo un uc] 26)=w1 at *
 go_wp2_with fail
 refine(Zx4 w1 B (HTB.o w1 B1.o)).mono ?_;rintro e w2 ⟨rfl,b2⟩;have X2:=ħ (X1.o.step b2);have B2:=ħ (B1.o.trans (b2.mono B1.o.size));clear b2 X1 B1
 go_upto_region 2 with(fail)
 go_wp2_with (refine wpList_load_row rfl 26 (.tmp 3) rfl (w.heap.size) ?x1 26 #[.slice qo qn qc,.slice mo mn mc,.slice uo un uc] (0,0) _ X2.o Tryz.underlying26 rfl (Zbf _ _ _) ?_;(case x1=>rfl))
 refine(HFW.o w2 B2.o).mono ?_;rintro e w3 ⟨rfl,b3⟩;have X3:=ħ (X2.o.step b3);have B3:=ħ (B2.o.trans (b3.mono B2.o.size));clear b3 X2 B2 HFW;obtain⟨V,hV⟩:∃ V,Z2w c=V:=⟨_,rfl⟩;rw[hV];have HV:=ħ hV;clear hV
 cases V with
 | false =>
  go_wp2_with fail
  go_ret;exact⟨rfl,B3.o⟩
 | true =>
  obtain⟨hok,h999,h65,h129⟩:=HFK.o HV.o;have HOK:=ħ hok;clear hok;have HAG:=ħ (fun W (hW:Below w.heap.size w W)=>(⟨HCW.o W hW,HTB.o W hW,HOK.o,by rw[HUE.o];exact h999⟩:ArgC W c [.slice qo qn qc,.slice mo mn mc,.slice uo un uc] B));clear HFK HTB HCW HOK;have HAR:=ħ (fun W (hW:Below w.heap.size w W)=>(⟨(HAG.o W hW).crw,(HAG.o W hW).ok,HLQ.o,(HAG.o W hW).nu,HFB.o HV.o⟩:ArgR W c [.slice qo qn qc,.slice mo mn mc,.slice uo un uc]));by_cases h10:(10:Int)<l.length
  ·go_wp2_with fail
   go_ret;exact⟨rfl,B3.o⟩
  have HN1:=ħ (fun W (hW:Below w.heap.size w W)=>Zsf W c _ B (HAG.o W hW));have HN2:=ħ (fun W (hW:Below w.heap.size w W)=>Zmh W c _ (HAR.o W hW));have HA1:=ħ (fun W (hW:Below w.heap.size w W)=>Zqp W c _ B u (HAG.o W hW));have HA2:=ħ (fun W (hW:Below w.heap.size w W)=>Zqv W c _ u (HAR.o W hW));have HU1:=ħ (fun W (hW:Below w.heap.size w W)=>Zpb W c _ B l lo lc (HAG.o W hW) (HLW.o W hW) (by omega));have HU2:=ħ (fun W (hW:Below w.heap.size w W)=>Zuh W c _ l lo lc (HAR.o W hW) (HLW.o W hW) (by omega));have HC1:=ħ (fun W (hW:Below w.heap.size w W)=>Zsi W c _ B l lo lc (HAG.o W hW) (HLW.o W hW) (by omega));have HC2:=ħ (fun W (hW:Below w.heap.size w W)=>Zqw W c _ l lo lc (HAR.o W hW) (HLW.o W hW) (by omega));have HSL:Hid ((Zci c u).1.length<=65):=ħ (đo (Zuj c u) (by rw[HME.o];exact h65));have HCL:Hid ((Zfj c l).length<=65):=ħ (đo (Z1d c l) (by rw[HME.o];exact h65));unfold Zqn at HA1 HA2;unfold Zlc at HC1 HC2
  have HC1:Hid (∀ W,Below w.heap.size w W->Calls Tryz.prog 29 #[.agg #[.slice qo qn qc,.slice mo mn mc,.slice uo un uc],.slice lo l.length lc] W fun e w'=>(∃ o cap,e = .returned (.slice o (Zfj c l).length cap)/\Zan Zbg w' o ((Zfj c l).map Int.ofNat))/\Below W.heap.size W w'):=ħ (fun W hW=>(HC1.o W hW).mono (fun e w' h=>by
   obtain⟨⟨o,cap,h1,h2⟩,h3⟩:=h
   exact⟨⟨o,cap,h1,Zcm h2 rfl⟩,h3⟩))
  have HC2:Hid (∀ W,Below w.heap.size w W->Calls Tryz.prog 46 #[.agg #[.slice qo qn qc,.slice mo mn mc,.slice uo un uc],.slice lo l.length lc] W fun e w'=>(∃ o cap,e = .returned (.slice o (Zfj c l).length cap)/\Zan Zbg w' o ((Zfj c l).map Int.ofNat))/\Below W.heap.size W w'):=ħ (fun W hW=>(HC2.o W hW).mono (fun e w' h=>by
   obtain⟨⟨o,cap,h1,h2⟩,h3⟩:=h
   exact⟨⟨o,cap,h1,Zcm h2 rfl⟩,h3⟩))
  have HCE:Hid (((Zfj c l).map Int.ofNat).length=(Zfj c l).length):=ħ (by rw[đr]);have HSE:Hid (((Zci c u).1.map Int.ofNat).length=(Zci c u).1.length):=ħ (by rw[đr]);obtain⟨CL,hCL⟩:∃ x,(Zfj c l).map Int.ofNat=x:=⟨_,rfl⟩;obtain⟨cl,hcl⟩:∃ x,(Zfj c l).length=x:=⟨_,rfl⟩;rw[hCL,hcl] at HC1 HC2 HCE;rw[hcl] at HCL;obtain⟨SL,hSL⟩:∃ x,(Zci c u).1.map Int.ofNat=x:=⟨_,rfl⟩;obtain⟨an,han⟩:∃ x,(Zci c u).1.length=x:=⟨_,rfl⟩;rw[hSL,han] at HA1 HA2 HSE;rw[han] at HSL;obtain⟨g1,hg1⟩:∃ x,(Zci c u).2=x:=⟨_,rfl⟩;rw[hg1] at HA1 HA2;obtain⟨n1,hn1⟩:∃ x,(Zdm c).1=x:=⟨_,rfl⟩;obtain⟨e1,he1⟩:∃ x,(Zdm c).2=x:=⟨_,rfl⟩;rw[hn1,he1] at HN1 HN2;obtain⟨u1,hu1⟩:∃ x,Zif c l=x:=⟨_,rfl⟩;obtain⟨k1,hk1⟩:∃ x,Zcz c l=x:=⟨_,rfl⟩;rw[hu1,hk1] at HU1 HU2;obtain⟨n,hn⟩:∃ x,l.length=x:=⟨_,rfl⟩;rw[hn] at HU1 HU2 HC1 HC2 h10 ⊢;clear hCL hcl hSL han hg1 hn1 he1 hu1 hk1 hn HAG HAR HLW
  go_upto_region 4 with(fail)
  go_wp2_with (refine wpList_load_row rfl 26 (.tmp 3) rfl (w.heap.size) ?x3 26 #[.slice qo qn qc,.slice mo mn mc,.slice uo un uc] (0,0) _ X3.o Tryz.underlying26 rfl (Zbf _ _ _) ?_;(case x3=>rfl))
  refine(HN1.o w3 B3.o).mono ?_;rintro e w4 ⟨rfl,b4⟩;have X4:=ħ (X3.o.step b4);have B4:=ħ (B3.o.trans (b4.mono B3.o.size));clear b4 X3 B3 HN1
  go_upto_region 5 with(fail)
  go_wp2_with (refine wpList_load_row rfl 26 (.tmp 3) rfl (w.heap.size) ?x4 26 #[.slice qo qn qc,.slice mo mn mc,.slice uo un uc] (0,0) _ X4.o Tryz.underlying26 rfl (Zbf _ _ _) ?_;(case x4=>rfl))
  refine(HN2.o w4 B4.o).mono ?_;rintro e w5 ⟨rfl,b5⟩;have X5:=ħ (X4.o.step b5);have B5:=ħ (B4.o.trans (b5.mono B4.o.size));clear b5 X4 B4 HN2
  go_upto_region 6 with(fail)
  go_wp2_with (refine wpList_load_row rfl 26 (.tmp 3) rfl (w.heap.size) ?x5 26 #[.slice qo qn qc,.slice mo mn mc,.slice uo un uc] (0,0) _ X5.o Tryz.underlying26 rfl (Zbf _ _ _) ?_;(case x5=>rfl))
  refine(HA1.o w5 B5.o).mono ?_;rintro e w6 ⟨b6,ao,ac,rfl,hfa⟩;have X6:=ħ (X5.o.step b6);have B6:=ħ (B5.o.trans (b6.mono B5.o.size));have FA:=ħ (fun W (hW:Below w6.heap.size w6 W)=>hfa.below hW);clear b6 hfa X5 B5 HA1
  go_upto_region 7 with(fail)
  go_wp2_with (refine wpList_load_row rfl 26 (.tmp 3) rfl (w.heap.size) ?x6 26 #[.slice qo qn qc,.slice mo mn mc,.slice uo un uc] (0,0) _ X6.o Tryz.underlying26 rfl (Zbf _ _ _) ?_;(case x6=>rfl))
  refine(HA2.o w6 B6.o).mono ?_;rintro e w7 ⟨b7,bo,bc,rfl,hfb⟩;have X7:=ħ (X6.o.step b7);have B7:=ħ (B6.o.trans (b7.mono B6.o.size));have FA:=ħ (fun W (hW:Below w7.heap.size w7 W)=>FA.o W (b7.trans (hW.mono b7.size)));have FB:=ħ (fun W (hW:Below w7.heap.size w7 W)=>hfb.below hW);clear b7 hfb X6 B6 HA2
  go_upto_region 8 with(fail)
  go_wp2_with (refine wpList_load_row rfl 26 (.tmp 3) rfl (w.heap.size) ?x7 26 #[.slice qo qn qc,.slice mo mn mc,.slice uo un uc] (0,0) _ X7.o Tryz.underlying26 rfl (Zbf _ _ _) ?_;(case x7=>rfl))
  refine(HU1.o w7 B7.o).mono ?_;rintro e w8 ⟨rfl,b8⟩;have X8:=ħ (X7.o.step b8);have B8:=ħ (B7.o.trans (b8.mono B7.o.size));have L8:=ħ b8;clear b8 X7 B7 HU1
  go_upto_region 9 with(fail)
  go_wp2_with (refine wpList_load_row rfl 26 (.tmp 3) rfl (w.heap.size) ?x8 26 #[.slice qo qn qc,.slice mo mn mc,.slice uo un uc] (0,0) _ X8.o Tryz.underlying26 rfl (Zbf _ _ _) ?_;(case x8=>rfl))
  refine(HU2.o w8 B8.o).mono ?_;rintro e w9 ⟨rfl,b9⟩;have X9:=ħ (X8.o.step b9);have B9:=ħ (B8.o.trans (b9.mono B8.o.size));have L9:=ħ (L8.o.trans (b9.mono L8.o.size));clear b9 L8 X8 B8 HU2;have HXB:=ħ (fun W (hW:Below w9.heap.size w9 W)=>X9.o.step hW);have HS1:=ħ (fun W (hW:Below w9.heap.size w9 W)=>Zfd W SL ao bo ac bc (FA.o W (L9.o.trans (hW.mono L9.o.size))) (FB.o W (L9.o.trans (hW.mono L9.o.size))) (by rw[HSE.o];have:=HSL.o;omega));rw[HSE.o] at HS1;have HS2:=ħ (fun W o1 o2 cap1 cap2 (h1:Zan Zbg W o1 CL) (h2:Zan Zbg W o2 CL)=>Zfd W CL o1 o2 cap1 cap2 h1 h2 (by rw[HCE.o];have:=HCL.o;omega));rw[HCE.o] at HS2;have HC1:=ħ (fun W (hW:Below w9.heap.size w9 W)=>HC1.o W (B9.o.trans (hW.mono B9.o.size)));have HC2:=ħ (fun W (hW:Below w9.heap.size w9 W)=>HC2.o W (B9.o.trans (hW.mono B9.o.size)));clear FA FB L9 X9 HSE HCE HSL HCL
  go_upto_region 10 with(fail)
  refine Za3 (Zul w.heap.size qn qc mn mc un uc an ac bc n lc cl n1 e1 g1 u1 qo mo uo ao bo lo CL k1) (by kernel_rfl) (Zum w.heap.size qn qc mn mc un uc an ac bc n lc cl n1 e1 g1 u1 qo mo uo ao bo lo CL k1) (Zbr (by kernel_rfl)) (Zf5 (by kernel_rfl)) (Zax (by kernel_rfl)) ?hs ?he
  case hs =>
   intro i o hi listed a' w' H hl2;have hl3:=Zap hl2;have hin:i<41:=(đp.1 hi).1;have hb:=ħ H.below;have s2:=H.same 2 (Zam (by kernel_rfl));have s3:=H.same 3 (Zam (by kernel_rfl));have s7:=H.same 7 (Zam (by kernel_rfl));have s8:=H.same 8 (Zam (by kernel_rfl));have s9:=H.same 9 (Zam (by kernel_rfl));have s10:=H.same 10 (Zam (by kernel_rfl));have s11:=H.same 11 (Zam (by kernel_rfl));have s12:=H.same 12 (Zam (by kernel_rfl));have s13:=H.same 13 (Zam (by kernel_rfl));have s14:=H.same 14 (Zam (by kernel_rfl));have s15:=H.same 15 (Zam (by kernel_rfl));have s16:=H.same 16 (Zam (by kernel_rfl));have s17:=H.same 17 (Zam (by kernel_rfl));have s18:=H.same 18 (Zam (by kernel_rfl));have s19:=H.same 19 (Zam (by kernel_rfl));have hdn:=H.done;have hdf:=H.defers;have hts:=H.tsize;clear hl2 H;obtain⟨t',df⟩:=a';obtain⟨f',rfl⟩:=Z3w t' hts;have hdf':df=[]:=hdf;subst hdf';have gs2:f' 2 = .slice lo n lc:=s2;have gs3:f' 3 = .pointer (some ⟨w.heap.size,0,none⟩):=s3;have gs7:f' 7 = .bool true:=s7;have gs8:f' 8 = .int .i64 (n1:Nat):=s8;have gs9:f' 9 = .int .i64 (e1:Nat):=s9;have gs10:f' 10 = .int .i64 (n1:Nat):=s10;have gs11:f' 11 = .int .i64 (e1:Nat):=s11;have gs12:f' 12 = .slice ao an ac:=s12;have gs13:f' 13 = .int .i64 (g1:Nat):=s13;have gs14:f' 14 = .slice bo an bc:=s14;have gs15:f' 15 = .int .i64 (g1:Nat):=s15;have gs16:f' 16 = .int .i64 (u1:Nat):=s16;have gs17:f' 17 = .bool k1:=s17;have gs18:f' 18 = .int .i64 (u1:Nat):=s18;have gs19:f' 19 = .bool k1:=s19;clear s2 s3 s7 s8 s9 s10 s11 s12 s13 s14 s15 s16 s17 s18 s19;clear hdf hts;have hcases:=Zuk i hin;clear hin;rcases hcases with rfl | rfl | rfl | rfl | rfl | rfl | rfl | rfl | rfl | rfl | rfl | rfl | rfl | rfl | rfl | rfl | rfl | rfl | rfl | rfl | rfl | rfl | rfl | rfl | rfl | rfl | rfl | rfl | rfl | rfl | rfl | rfl | rfl | rfl | rfl | rfl | rfl | rfl | rfl | rfl | rfl
   ·obtain rfl:=đa hi
    clear hdn hl3;rw[gs7];clear gs2 gs3 gs7 gs8 gs9 gs10 gs11 gs12 gs13 gs14 gs15 gs16 gs17 gs18 gs19;refine Zab rfl ?_
    go_wp2_with fail
    exact Zaa ⟨_,rfl,đc _ _,rfl⟩
   ·obtain rfl:=đa hi
    have dv0:f' 64 = .bool true:=hdn 0 _ 64 rfl (hl3 0 (by rfl)) rfl;clear hdn hl3;rw[dv0];clear dv0 gs2 gs3 gs7 gs8 gs9 gs10 gs11 gs12 gs13 gs14 gs15 gs16 gs17 gs18 gs19;refine Zab rfl ?_
    go_wp2_with fail
    exact Zaa ⟨_,rfl,đc _ _,rfl⟩
   ·obtain rfl:=đa hi
    have dv1:f' 65 = .bool true:=hdn 1 _ 65 rfl (hl3 1 (by rfl)) rfl;clear hdn hl3;rw[gs8,dv1];clear dv1 gs2 gs3 gs7 gs8 gs9 gs10 gs11 gs12 gs13 gs14 gs15 gs16 gs17 gs18 gs19;refine Zab rfl ?_
    go_wp2_with fail
    exact Zaa ⟨_,rfl,đc _ _,rfl⟩
   ·obtain rfl:=đa hi
    have dv1:f' 65 = .bool true:=hdn 1 _ 65 rfl (hl3 1 (by rfl)) rfl;clear hdn hl3;rw[gs10,dv1];clear dv1 gs2 gs3 gs7 gs8 gs9 gs10 gs11 gs12 gs13 gs14 gs15 gs16 gs17 gs18 gs19;refine Zab rfl ?_
    go_wp2_with fail
    exact Zaa ⟨_,rfl,đc _ _,rfl⟩
   ·obtain rfl:=đa hi
    have dv1:f' 65 = .bool true:=hdn 1 _ 65 rfl (hl3 1 (by rfl)) rfl;have dv2:f' 66 = .int .i64 (n1:Nat):=hdn 2 _ 66 rfl (hl3 2 (by rfl)) rfl;have dv3:f' 67 = .int .i64 (n1:Nat):=hdn 3 _ 67 rfl (hl3 3 (by rfl)) rfl;clear hdn hl3;rw[dv1,dv2,dv3];clear dv1 dv2 dv3 gs2 gs3 gs7 gs8 gs9 gs10 gs11 gs12 gs13 gs14 gs15 gs16 gs17 gs18 gs19
    have qq:(((n1:Nat):Int)==((n1:Nat):Int))=true:=by simp
    refine Zab rfl ?_
    go_wp2_with fail
    exact Zaa ⟨_,rfl,đc _ _,rfl⟩
   ·obtain rfl:=đa hi
    have dv1:f' 65 = .bool true:=hdn 1 _ 65 rfl (hl3 1 (by rfl)) rfl;have dv4:f' 68 = .bool true:=hdn 4 _ 68 rfl (hl3 4 (by rfl)) rfl;clear hdn hl3;rw[dv1,dv4];clear dv1 dv4 gs2 gs3 gs7 gs8 gs9 gs10 gs11 gs12 gs13 gs14 gs15 gs16 gs17 gs18 gs19;refine Zab rfl ?_
    go_wp2_with fail
    exact Zaa ⟨_,rfl,đc _ _,rfl⟩
   ·obtain rfl:=đa hi
    have dv5:f' 69 = .bool true:=hdn 5 _ 69 rfl (hl3 5 (by rfl)) rfl;clear hdn hl3;rw[dv5];clear dv5 gs2 gs3 gs7 gs8 gs9 gs10 gs11 gs12 gs13 gs14 gs15 gs16 gs17 gs18 gs19;refine Zab rfl ?_
    go_wp2_with fail
    exact Zaa ⟨_,rfl,đc _ _,rfl⟩
   ·obtain rfl:=đa hi
    have dv6:f' 70 = .bool true:=hdn 6 _ 70 rfl (hl3 6 (by rfl)) rfl;clear hdn hl3;rw[gs9,dv6];clear dv6 gs2 gs3 gs7 gs8 gs9 gs10 gs11 gs12 gs13 gs14 gs15 gs16 gs17 gs18 gs19;refine Zab rfl ?_
    go_wp2_with fail
    exact Zaa ⟨_,rfl,đc _ _,rfl⟩
   ·obtain rfl:=đa hi
    have dv6:f' 70 = .bool true:=hdn 6 _ 70 rfl (hl3 6 (by rfl)) rfl;clear hdn hl3;rw[gs11,dv6];clear dv6 gs2 gs3 gs7 gs8 gs9 gs10 gs11 gs12 gs13 gs14 gs15 gs16 gs17 gs18 gs19;refine Zab rfl ?_
    go_wp2_with fail
    exact Zaa ⟨_,rfl,đc _ _,rfl⟩
   ·obtain rfl:=đa hi
    have dv6:f' 70 = .bool true:=hdn 6 _ 70 rfl (hl3 6 (by rfl)) rfl;have dv7:f' 71 = .int .i64 (e1:Nat):=hdn 7 _ 71 rfl (hl3 7 (by rfl)) rfl;have dv8:f' 72 = .int .i64 (e1:Nat):=hdn 8 _ 72 rfl (hl3 8 (by rfl)) rfl;clear hdn hl3;rw[dv6,dv7,dv8];clear dv6 dv7 dv8 gs2 gs3 gs7 gs8 gs9 gs10 gs11 gs12 gs13 gs14 gs15 gs16 gs17 gs18 gs19
    have qq:(((e1:Nat):Int)==((e1:Nat):Int))=true:=by simp
    refine Zab rfl ?_
    go_wp2_with fail
    exact Zaa ⟨_,rfl,đc _ _,rfl⟩
   ·obtain rfl:=đa hi
    have dv6:f' 70 = .bool true:=hdn 6 _ 70 rfl (hl3 6 (by rfl)) rfl;have dv9:f' 73 = .bool true:=hdn 9 _ 73 rfl (hl3 9 (by rfl)) rfl;clear hdn hl3;rw[dv6,dv9];clear dv6 dv9 gs2 gs3 gs7 gs8 gs9 gs10 gs11 gs12 gs13 gs14 gs15 gs16 gs17 gs18 gs19;refine Zab rfl ?_
    go_wp2_with fail
    exact Zaa ⟨_,rfl,đc _ _,rfl⟩
   ·obtain rfl:=đa hi
    have dv10:f' 74 = .bool true:=hdn 10 _ 74 rfl (hl3 10 (by rfl)) rfl;clear hdn hl3;rw[dv10];clear dv10 gs2 gs3 gs7 gs8 gs9 gs10 gs11 gs12 gs13 gs14 gs15 gs16 gs17 gs18 gs19;refine Zab rfl ?_
    go_wp2_with fail
    exact Zaa ⟨_,rfl,đc _ _,rfl⟩
   ·obtain rfl:=đa hi
    have dv11:f' 75 = .bool true:=hdn 11 _ 75 rfl (hl3 11 (by rfl)) rfl;clear hdn hl3;rw[gs13,dv11];clear dv11 gs2 gs3 gs7 gs8 gs9 gs10 gs11 gs12 gs13 gs14 gs15 gs16 gs17 gs18 gs19;refine Zab rfl ?_
    go_wp2_with fail
    exact Zaa ⟨_,rfl,đc _ _,rfl⟩
   ·obtain rfl:=đa hi
    have dv11:f' 75 = .bool true:=hdn 11 _ 75 rfl (hl3 11 (by rfl)) rfl;clear hdn hl3;rw[gs15,dv11];clear dv11 gs2 gs3 gs7 gs8 gs9 gs10 gs11 gs12 gs13 gs14 gs15 gs16 gs17 gs18 gs19;refine Zab rfl ?_
    go_wp2_with fail
    exact Zaa ⟨_,rfl,đc _ _,rfl⟩
   ·obtain rfl:=đa hi
    have dv11:f' 75 = .bool true:=hdn 11 _ 75 rfl (hl3 11 (by rfl)) rfl;have dv12:f' 76 = .int .i64 (g1:Nat):=hdn 12 _ 76 rfl (hl3 12 (by rfl)) rfl;have dv13:f' 77 = .int .i64 (g1:Nat):=hdn 13 _ 77 rfl (hl3 13 (by rfl)) rfl;clear hdn hl3;rw[dv11,dv12,dv13];clear dv11 dv12 dv13 gs2 gs3 gs7 gs8 gs9 gs10 gs11 gs12 gs13 gs14 gs15 gs16 gs17 gs18 gs19
    have qq:(((g1:Nat):Int)==((g1:Nat):Int))=true:=by simp
    refine Zab rfl ?_
    go_wp2_with fail
    exact Zaa ⟨_,rfl,đc _ _,rfl⟩
   ·obtain rfl:=đa hi
    have dv11:f' 75 = .bool true:=hdn 11 _ 75 rfl (hl3 11 (by rfl)) rfl;have dv14:f' 78 = .bool true:=hdn 14 _ 78 rfl (hl3 14 (by rfl)) rfl;clear hdn hl3;rw[dv11,dv14];clear dv11 dv14 gs2 gs3 gs7 gs8 gs9 gs10 gs11 gs12 gs13 gs14 gs15 gs16 gs17 gs18 gs19;refine Zab rfl ?_
    go_wp2_with fail
    exact Zaa ⟨_,rfl,đc _ _,rfl⟩
   ·obtain rfl:=đa hi
    have dv15:f' 79 = .bool true:=hdn 15 _ 79 rfl (hl3 15 (by rfl)) rfl;clear hdn hl3;rw[dv15];clear dv15 gs2 gs3 gs7 gs8 gs9 gs10 gs11 gs12 gs13 gs14 gs15 gs16 gs17 gs18 gs19;refine Zab rfl ?_
    go_wp2_with fail
    exact Zaa ⟨_,rfl,đc _ _,rfl⟩
   ·obtain rfl:=đa hi
    have dv16:f' 80 = .bool true:=hdn 16 _ 80 rfl (hl3 16 (by rfl)) rfl;clear hdn hl3;rw[gs12,dv16];clear dv16 gs2 gs3 gs7 gs8 gs9 gs10 gs11 gs12 gs13 gs14 gs15 gs16 gs17 gs18 gs19;refine Zab rfl ?_
    go_wp2_with fail
    exact Zaa ⟨_,rfl,đc _ _,rfl⟩
   ·obtain rfl:=đa hi
    have dv16:f' 80 = .bool true:=hdn 16 _ 80 rfl (hl3 16 (by rfl)) rfl;clear hdn hl3;rw[gs14,dv16];clear dv16 gs2 gs3 gs7 gs8 gs9 gs10 gs11 gs12 gs13 gs14 gs15 gs16 gs17 gs18 gs19;refine Zab rfl ?_
    go_wp2_with fail
    exact Zaa ⟨_,rfl,đc _ _,rfl⟩
   ·obtain rfl:=đa hi
    have dv16:f' 80 = .bool true:=hdn 16 _ 80 rfl (hl3 16 (by rfl)) rfl;have dv17:f' 81 = .slice ao an ac:=hdn 17 _ 81 rfl (hl3 17 (by rfl)) rfl;have dv18:f' 82 = .slice bo an bc:=hdn 18 _ 82 rfl (hl3 18 (by rfl)) rfl;clear hdn hl3;rw[dv16,dv17,dv18];clear dv16 dv17 dv18 gs2 gs3 gs7 gs8 gs9 gs10 gs11 gs12 gs13 gs14 gs15 gs16 gs17 gs18 gs19;refine Zab rfl ?_
    go_wp2_with fail
    refine(HS1.o w' hb.o).mono ?_;rintro e w4 ⟨rfl,b4⟩;have HB4:=ħ b4;clear b4
    go_wp2_with fail
    exact Zaa ⟨_,rfl,HB4.o,rfl⟩
   ·obtain rfl:=đa hi
    have dv16:f' 80 = .bool true:=hdn 16 _ 80 rfl (hl3 16 (by rfl)) rfl;have dv19:f' 83 = .bool true:=hdn 19 _ 83 rfl (hl3 19 (by rfl)) rfl;clear hdn hl3;rw[dv16,dv19];clear dv16 dv19 gs2 gs3 gs7 gs8 gs9 gs10 gs11 gs12 gs13 gs14 gs15 gs16 gs17 gs18 gs19;refine Zab rfl ?_
    go_wp2_with fail
    exact Zaa ⟨_,rfl,đc _ _,rfl⟩
   ·obtain rfl:=đa hi
    have dv20:f' 84 = .bool true:=hdn 20 _ 84 rfl (hl3 20 (by rfl)) rfl;clear hdn hl3;rw[dv20];clear dv20 gs2 gs3 gs7 gs8 gs9 gs10 gs11 gs12 gs13 gs14 gs15 gs16 gs17 gs18 gs19;refine Zab rfl ?_
    go_wp2_with fail
    exact Zaa ⟨_,rfl,đc _ _,rfl⟩
   ·obtain rfl:=đa hi
    have dv21:f' 85 = .bool true:=hdn 21 _ 85 rfl (hl3 21 (by rfl)) rfl;clear hdn hl3;rw[gs16,dv21];clear dv21 gs2 gs3 gs7 gs8 gs9 gs10 gs11 gs12 gs13 gs14 gs15 gs16 gs17 gs18 gs19;refine Zab rfl ?_
    go_wp2_with fail
    exact Zaa ⟨_,rfl,đc _ _,rfl⟩
   ·obtain rfl:=đa hi
    have dv21:f' 85 = .bool true:=hdn 21 _ 85 rfl (hl3 21 (by rfl)) rfl;clear hdn hl3;rw[gs18,dv21];clear dv21 gs2 gs3 gs7 gs8 gs9 gs10 gs11 gs12 gs13 gs14 gs15 gs16 gs17 gs18 gs19;refine Zab rfl ?_
    go_wp2_with fail
    exact Zaa ⟨_,rfl,đc _ _,rfl⟩
   ·obtain rfl:=đa hi
    have dv21:f' 85 = .bool true:=hdn 21 _ 85 rfl (hl3 21 (by rfl)) rfl;have dv22:f' 86 = .int .i64 (u1:Nat):=hdn 22 _ 86 rfl (hl3 22 (by rfl)) rfl;have dv23:f' 87 = .int .i64 (u1:Nat):=hdn 23 _ 87 rfl (hl3 23 (by rfl)) rfl;clear hdn hl3;rw[dv21,dv22,dv23];clear dv21 dv22 dv23 gs2 gs3 gs7 gs8 gs9 gs10 gs11 gs12 gs13 gs14 gs15 gs16 gs17 gs18 gs19
    have qq:(((u1:Nat):Int)==((u1:Nat):Int))=true:=by simp
    refine Zab rfl ?_
    go_wp2_with fail
    exact Zaa ⟨_,rfl,đc _ _,rfl⟩
   ·obtain rfl:=đa hi
    have dv21:f' 85 = .bool true:=hdn 21 _ 85 rfl (hl3 21 (by rfl)) rfl;have dv24:f' 88 = .bool true:=hdn 24 _ 88 rfl (hl3 24 (by rfl)) rfl;clear hdn hl3;rw[dv21,dv24];clear dv21 dv24 gs2 gs3 gs7 gs8 gs9 gs10 gs11 gs12 gs13 gs14 gs15 gs16 gs17 gs18 gs19;refine Zab rfl ?_
    go_wp2_with fail
    exact Zaa ⟨_,rfl,đc _ _,rfl⟩
   ·obtain rfl:=đa hi
    have dv25:f' 89 = .bool true:=hdn 25 _ 89 rfl (hl3 25 (by rfl)) rfl;clear hdn hl3;rw[dv25];clear dv25 gs2 gs3 gs7 gs8 gs9 gs10 gs11 gs12 gs13 gs14 gs15 gs16 gs17 gs18 gs19;refine Zab rfl ?_
    go_wp2_with fail
    exact Zaa ⟨_,rfl,đc _ _,rfl⟩
   ·obtain rfl:=đa hi
    have dv26:f' 90 = .bool true:=hdn 26 _ 90 rfl (hl3 26 (by rfl)) rfl;clear hdn hl3;rw[gs17,dv26];clear dv26 gs2 gs3 gs7 gs8 gs9 gs10 gs11 gs12 gs13 gs14 gs15 gs16 gs17 gs18 gs19;refine Zab rfl ?_
    go_wp2_with fail
    exact Zaa ⟨_,rfl,đc _ _,rfl⟩
   ·obtain rfl:=đa hi
    have dv26:f' 90 = .bool true:=hdn 26 _ 90 rfl (hl3 26 (by rfl)) rfl;clear hdn hl3;rw[gs19,dv26];clear dv26 gs2 gs3 gs7 gs8 gs9 gs10 gs11 gs12 gs13 gs14 gs15 gs16 gs17 gs18 gs19;refine Zab rfl ?_
    go_wp2_with fail
    exact Zaa ⟨_,rfl,đc _ _,rfl⟩
   ·obtain rfl:=đa hi
    have dv26:f' 90 = .bool true:=hdn 26 _ 90 rfl (hl3 26 (by rfl)) rfl;have dv27:f' 91 = .bool k1:=hdn 27 _ 91 rfl (hl3 27 (by rfl)) rfl;have dv28:f' 92 = .bool k1:=hdn 28 _ 92 rfl (hl3 28 (by rfl)) rfl;clear hdn hl3;rw[dv26,dv27,dv28];clear dv26 dv27 dv28 gs2 gs3 gs7 gs8 gs9 gs10 gs11 gs12 gs13 gs14 gs15 gs16 gs17 gs18 gs19
    have qq:(k1==k1)=true:=by simp
    refine Zab rfl ?_
    go_wp2_with fail
    exact Zaa ⟨_,rfl,đc _ _,rfl⟩
   ·obtain rfl:=đa hi
    have dv26:f' 90 = .bool true:=hdn 26 _ 90 rfl (hl3 26 (by rfl)) rfl;have dv29:f' 93 = .bool true:=hdn 29 _ 93 rfl (hl3 29 (by rfl)) rfl;clear hdn hl3;rw[dv26,dv29];clear dv26 dv29 gs2 gs3 gs7 gs8 gs9 gs10 gs11 gs12 gs13 gs14 gs15 gs16 gs17 gs18 gs19;refine Zab rfl ?_
    go_wp2_with fail
    exact Zaa ⟨_,rfl,đc _ _,rfl⟩
   ·obtain rfl:=đa hi
    have dv30:f' 94 = .bool true:=hdn 30 _ 94 rfl (hl3 30 (by rfl)) rfl;clear hdn hl3;rw[dv30];clear dv30 gs2 gs3 gs7 gs8 gs9 gs10 gs11 gs12 gs13 gs14 gs15 gs16 gs17 gs18 gs19;refine Zab rfl ?_
    go_wp2_with fail
    exact Zaa ⟨_,rfl,đc _ _,rfl⟩
   ·obtain rfl:=đa hi
    have dv31:f' 95 = .bool true:=hdn 31 _ 95 rfl (hl3 31 (by rfl)) rfl;clear hdn hl3;rw[gs3,dv31];clear dv31 gs2 gs3 gs7 gs8 gs9 gs10 gs11 gs12 gs13 gs14 gs15 gs16 gs17 gs18 gs19;have hx:=HXB.o w' hb.o;have c0:=hx.cell 0 _ rfl;have c1:=hx.cell 1 _ rfl;have c2:=hx.cell 2 _ rfl;clear hx;refine Zab rfl ?_
    go_wp2_with fail
    exact Zaa ⟨_,rfl,đc _ _,rfl⟩
   ·obtain rfl:=đa hi
    have dv31:f' 95 = .bool true:=hdn 31 _ 95 rfl (hl3 31 (by rfl)) rfl;clear hdn hl3;rw[gs2,dv31];clear dv31 gs2 gs3 gs7 gs8 gs9 gs10 gs11 gs12 gs13 gs14 gs15 gs16 gs17 gs18 gs19;refine Zab rfl ?_
    go_wp2_with fail
    exact Zaa ⟨_,rfl,đc _ _,rfl⟩
   ·obtain rfl:=đa hi
    have dv31:f' 95 = .bool true:=hdn 31 _ 95 rfl (hl3 31 (by rfl)) rfl;have dv32:f' 96 = .agg #[.slice qo qn qc,.slice mo mn mc,.slice uo un uc]:=hdn 32 _ 96 rfl (hl3 32 (by rfl)) rfl;have dv33:f' 97 = .slice lo n lc:=hdn 33 _ 97 rfl (hl3 33 (by rfl)) rfl;clear hdn hl3;rw[dv31,dv32,dv33];clear dv31 dv32 dv33 gs2 gs3 gs7 gs8 gs9 gs10 gs11 gs12 gs13 gs14 gs15 gs16 gs17 gs18 gs19;refine Zab rfl ?_
    go_wp2_with fail
    refine(HC1.o w' hb.o).mono ?_;rintro e w4 ⟨⟨o,cap,rfl,ho⟩,b4⟩;have HO:=ħ ho;have HB4:=ħ b4;clear ho b4
    go_wp2_with fail
    exact Zaa ⟨_,rfl,HB4.o,o,cap,rfl,HO.o⟩
   ·obtain rfl:=đa hi
    have dv31:f' 95 = .bool true:=hdn 31 _ 95 rfl (hl3 31 (by rfl)) rfl;clear hdn hl3;rw[gs3,dv31];clear dv31 gs2 gs3 gs7 gs8 gs9 gs10 gs11 gs12 gs13 gs14 gs15 gs16 gs17 gs18 gs19;have hx:=HXB.o w' hb.o;have c0:=hx.cell 0 _ rfl;have c1:=hx.cell 1 _ rfl;have c2:=hx.cell 2 _ rfl;clear hx;refine Zab rfl ?_
    go_wp2_with fail
    exact Zaa ⟨_,rfl,đc _ _,rfl⟩
   ·obtain rfl:=đa hi
    have dv31:f' 95 = .bool true:=hdn 31 _ 95 rfl (hl3 31 (by rfl)) rfl;clear hdn hl3;rw[gs2,dv31];clear dv31 gs2 gs3 gs7 gs8 gs9 gs10 gs11 gs12 gs13 gs14 gs15 gs16 gs17 gs18 gs19;refine Zab rfl ?_
    go_wp2_with fail
    exact Zaa ⟨_,rfl,đc _ _,rfl⟩
   ·obtain rfl:=đa hi
    have dv31:f' 95 = .bool true:=hdn 31 _ 95 rfl (hl3 31 (by rfl)) rfl;have dv35:f' 99 = .agg #[.slice qo qn qc,.slice mo mn mc,.slice uo un uc]:=hdn 35 _ 99 rfl (hl3 35 (by rfl)) rfl;have dv36:f' 100 = .slice lo n lc:=hdn 36 _ 100 rfl (hl3 36 (by rfl)) rfl;clear hdn hl3;rw[dv31,dv35,dv36];clear dv31 dv35 dv36 gs2 gs3 gs7 gs8 gs9 gs10 gs11 gs12 gs13 gs14 gs15 gs16 gs17 gs18 gs19;refine Zab rfl ?_
    go_wp2_with fail
    refine(HC2.o w' hb.o).mono ?_;rintro e w4 ⟨⟨o,cap,rfl,ho⟩,b4⟩;have HO:=ħ ho;have HB4:=ħ b4;clear ho b4
    go_wp2_with fail
    exact Zaa ⟨_,rfl,HB4.o,o,cap,rfl,HO.o⟩
   ·obtain rfl:=đa hi
    have dv31:f' 95 = .bool true:=hdn 31 _ 95 rfl (hl3 31 (by rfl)) rfl;have dv34:Zul w.heap.size qn qc mn mc un uc an ac bc n lc cl n1 e1 g1 u1 qo mo uo ao bo lo CL k1 34 w' (f' 98):=hdn 34 _ 98 rfl (hl3 34 (by rfl)) rfl;obtain⟨o1,cap1,dv34,ho1⟩:=dv34;have dv37:Zul w.heap.size qn qc mn mc un uc an ac bc n lc cl n1 e1 g1 u1 qo mo uo ao bo lo CL k1 37 w' (f' 101):=hdn 37 _ 101 rfl (hl3 37 (by rfl)) rfl;obtain⟨o2,cap2,dv37,ho2⟩:=dv37;clear hdn hl3;rw[dv31,dv34,dv37];clear dv31 dv34 dv37 gs2 gs3 gs7 gs8 gs9 gs10 gs11 gs12 gs13 gs14 gs15 gs16 gs17 gs18 gs19;have HO1:=ħ ho1;have HO2:=ħ ho2;clear ho1 ho2;refine Zab rfl ?_
    go_wp2_with fail
    refine(HS2.o w' o1 o2 cap1 cap2 HO1.o HO2.o).mono ?_;rintro e w4 ⟨rfl,b4⟩;have HB4:=ħ b4;clear b4
    go_wp2_with fail
    exact Zaa ⟨_,rfl,HB4.o,rfl⟩
   ·obtain rfl:=đa hi
    have dv31:f' 95 = .bool true:=hdn 31 _ 95 rfl (hl3 31 (by rfl)) rfl;have dv38:f' 102 = .bool true:=hdn 38 _ 102 rfl (hl3 38 (by rfl)) rfl;clear hdn hl3;rw[dv31,dv38];clear dv31 dv38 gs2 gs3 gs7 gs8 gs9 gs10 gs11 gs12 gs13 gs14 gs15 gs16 gs17 gs18 gs19;refine Zab rfl ?_
    go_wp2_with fail
    exact Zaa ⟨_,rfl,đc _ _,rfl⟩
   ·obtain rfl:=đa hi
    have dv39:f' 103 = .bool true:=hdn 39 _ 103 rfl (hl3 39 (by rfl)) rfl;clear hdn hl3;rw[dv39];clear dv39 gs2 gs3 gs7 gs8 gs9 gs10 gs11 gs12 gs13 gs14 gs15 gs16 gs17 gs18 gs19;refine Zab rfl ?_
    go_wp2_with fail
    exact Zaa ⟨_,rfl,đc _ _,rfl⟩
  case he =>
   intro listed a' w4 H hall;have hd40:Zul w.heap.size qn qc mn mc un uc an ac bc n lc cl n1 e1 g1 u1 qo mo uo ao bo lo CL k1 40 w4 (a'.tmps.getD 6 undef):=H.done 40 _ 6 rfl (hall 40 (by decide)) rfl;have hb4:=ħ H.below;have hact:=H.act [64,65,66,67,68,69,70,71,72,73,74,75,76,77,78,79,80,81,82,83,84,85,86,87,88,89,90,91,92,93,94,95,96,97,98,99,100,101,102,103,6] (Zdd (by kernel_rfl));clear H hall;simp only[List.foldl_cons,List.foldl_nil] at hact;generalize a'.tmps.getD 64 undef=z64 at *;generalize a'.tmps.getD 65 undef=z65 at *;generalize a'.tmps.getD 66 undef=z66 at *;generalize a'.tmps.getD 67 undef=z67 at *;generalize a'.tmps.getD 68 undef=z68 at *;generalize a'.tmps.getD 69 undef=z69 at *;generalize a'.tmps.getD 70 undef=z70 at *;generalize a'.tmps.getD 71 undef=z71 at *;generalize a'.tmps.getD 72 undef=z72 at *;generalize a'.tmps.getD 73 undef=z73 at *;generalize a'.tmps.getD 74 undef=z74 at *;generalize a'.tmps.getD 75 undef=z75 at *;generalize a'.tmps.getD 76 undef=z76 at *;generalize a'.tmps.getD 77 undef=z77 at *;generalize a'.tmps.getD 78 undef=z78 at *;generalize a'.tmps.getD 79 undef=z79 at *;generalize a'.tmps.getD 80 undef=z80 at *;generalize a'.tmps.getD 81 undef=z81 at *;generalize a'.tmps.getD 82 undef=z82 at *;generalize a'.tmps.getD 83 undef=z83 at *;generalize a'.tmps.getD 84 undef=z84 at *;generalize a'.tmps.getD 85 undef=z85 at *;generalize a'.tmps.getD 86 undef=z86 at *;generalize a'.tmps.getD 87 undef=z87 at *;generalize a'.tmps.getD 88 undef=z88 at *;generalize a'.tmps.getD 89 undef=z89 at *;generalize a'.tmps.getD 90 undef=z90 at *;generalize a'.tmps.getD 91 undef=z91 at *;generalize a'.tmps.getD 92 undef=z92 at *;generalize a'.tmps.getD 93 undef=z93 at *;generalize a'.tmps.getD 94 undef=z94 at *;generalize a'.tmps.getD 95 undef=z95 at *;generalize a'.tmps.getD 96 undef=z96 at *;generalize a'.tmps.getD 97 undef=z97 at *;generalize a'.tmps.getD 98 undef=z98 at *;generalize a'.tmps.getD 99 undef=z99 at *;generalize a'.tmps.getD 100 undef=z100 at *;generalize a'.tmps.getD 101 undef=z101 at *;generalize a'.tmps.getD 102 undef=z102 at *;generalize a'.tmps.getD 103 undef=z103 at *;generalize a'.tmps.getD 6 undef=z6 at *;subst hact;have e40:z6 = .bool true:=hd40;subst e40;clear hd40;simp only[Act.put,List.setIfInBounds_toArray,List.set_cons_succ,List.set_cons_zero];have B10:=ħ (B9.o.trans (hb4.o.mono B9.o.size))
   go_wp2_with fail
   go_ret;exact⟨rfl,B10.o⟩
end Go.Proofs.YtbcgocpihobjnaaGreatDoor
set_option linter.all false
set_option maxRecDepth 100000
namespace Go.Proofs.YtbcgocpihobjnaaGreatDoor
open Go Go.ChangeShapes Go.WideShapes Go.ChangeAt Go.WideMaps Go.WideElems Go.RowKit Go.Joins
def Zyv:List (String×DataW Unit):=[("cloak/ask.reserved",Rows.laid_cloak_ask_reserved)]
theorem Zpk{W:World}(h:laidMetH Tryz.prog Zyv W)(hs:W.ShapedOpen Tryz.prog):Tab W W.heap.size:=by
 rw[MakeChecks.laidMetH_plain _ _ _ (by kernel_rfl)] at h;obtain⟨ps,h,-,-⟩:=h;obtain⟨g2,t2,cs2,f2,p2,q2,hg2,ht2,hv2,hd2,h,-⟩:=h;obtain rfl:=Option.some.inj (Z41.symm.trans hg2);obtain rfl:=Option.some.inj (Z47.symm.trans ht2);rw[Z3h] at hd2;obtain⟨a,cap,hc2,hl5,hel⟩:=open_row Tryz.underlying194 (by kernel_rfl) hd2
 have hcell5:W.cell? ⟨0,0,none⟩=some (.slice (some a) 8 cap):=by
  rw[World.var?_cell Z41 hv2 0,<- Array.getElem?_toList,hc2];rfl
 have key:∀ (i:Nat) (s:List Nat),Zdh[i]?=some s->W.cell? (a.add i)=some (.string (Zad s)):=fun i s hi=>by
  obtain⟨v,n,q,h1,h2⟩:=hel i (.lit (.string (s.map UInt8.ofNat))) (by rw[List.getElem?_map,hi];rfl);obtain⟨z,h3,h4,-⟩:=DataW.trod_string Tryz.underlying9 h2;simp only[List.cons.injEq,and_true] at h3;simp only[Prod.mk.injEq,DataW.lit.injEq,Lit.string.injEq] at h4;rw[h1,h3]
  have:z=Zad s:=by
   obtain⟨⟨zl⟩⟩:=z;show(⟨⟨zl⟩⟩:ByteArray)=⟨(s.map UInt8.ofNat).toArray⟩;rw[h4.1]
  rw[this]
 obtain⟨b,off,ha,hb⟩:=Zr2 (key 0 _ rfl)
 have ha':a=⟨b,off,none⟩:=by
  obtain⟨ab,ao,asp⟩:=a;simp only[Addr.add,Addr.mk.injEq] at ha;simpa using ha
 subst ha'
 have h6:1<W.heap.size:=by
  obtain⟨cs,hh,-,-⟩:=hs.1 1 #[.int .i64 0] 3 (of_decide_eq_true (by kernel_rfl)) (by kernel_rfl);exact(Array.getElem?_eq_some_iff.1 hh).1
 exact⟨⟨b,off,cap,hb,hcell5,fun j v hj=>by
   rw[List.getElem?_map] at hj;obtain⟨s,h1,rfl⟩:=Option.map_eq_some_iff.1 hj;rw[<- Go.WideShapes.add_plain]
   exact key j s h1⟩,
  cell_of_shapedOpen_int (zero:=#[.int .i64 0]) (t:=3) hs (of_decide_eq_true (by kernel_rfl)) (by kernel_rfl) rfl (by kernel_rfl) (by kernel_rfl) Tryz.underlying3,by have:(1:Nat)<W.heap.size:=h6;omega,Nat.le_refl _⟩
theorem Zyw(os:Os)(args:Array Value):laidMetH Tryz.prog Zyv ((World.doorLaid Tryz.prog 400 os).forCall (fun _ _=>0) ⟨#[],args,[]⟩).memory :=
 laidMetH_of_parts3 (fuel:=8) (laidMet_of_run' 8 (by kernel_rfl) (by kernel_rfl)) (by kernel_rfl) (by kernel_rfl)
theorem Zyx:Tryz.pinned.checked.prog.mainIs=some ((true,"338451282303b13a8cdbd10538cf236b010dc1946a10f25ba5749e7e6682990c").1,((true,"338451282303b13a8cdbd10538cf236b010dc1946a10f25ba5749e7e6682990c"):Bool×String).2.toList):=by kernel_rfl
theorem Zui:false = Tryz.pinned.checked.prog.looks []:=by kernel_rfl
end Go.Proofs.YtbcgocpihobjnaaGreatDoor
